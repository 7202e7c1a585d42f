/-
  Is a process sound?: what the program looks at, over deep values. No statement is proved here.
-/
import Derived.Test.YtjnfahdolkgnoaaQSo1
namespace Go.Proofs.Ytjnfahdolkgnoaa
open Go.RowKit
set_option linter.unusedSimpArgs false
set_option linter.unusedVariables false
/-! ### Plain -/
/-- Nodes whose steps are on some edges. -/
def dsRow (L : List StepD) (l : List EdgeD) (s : Nat → Bool) : Nat → Nat → Bool
  | 0 => s
  | k + 1 => mark (dsRow L l s k) (L.getD (l.getD k (0, 0)).1.toNat (0, 0, 0)).1.toNat
def dsTo (L : List StepD) (N : List (List EdgeD)) : Nat → Nat → Bool
  | 0 => fun _ => false
  | n + 1 => dsRow L (N.getD n []) (dsTo L N n) (N.getD n []).length
def deadTo (P : ProcD) (s : Nat → Bool) : Nat → List Int
  | 0 => []
  | k + 1 => if s k = false ∧ P.kind k ≠ 1 then deadTo P s k ++ [(k : Int)] else deadTo P s k
noncomputable def deadL (P : ProcD) (N : List (List EdgeD)) : List Int := deadTo P (dsTo P.stepsL N N.length) P.nodes.length
theorem deadTo_len (P : ProcD) (s : Nat → Bool) : ∀ k, (deadTo P s k).length ≤ k
  | 0 => by simp [deadTo]
  | k + 1 => by
    have := deadTo_len P s k
    simp only [deadTo]
    split <;> simp <;> omega
def stillB (M : List (List Int)) (N : List (List EdgeD)) (i : Nat) : Bool := decide ((N.getD i []).length = 0) && !(emptyB (M.getD i []))
def endsTo (M : List (List Int)) : Nat → List Int
  | 0 => []
  | k + 1 => if emptyB (M.getD k []) = true then endsTo M k ++ [(k : Int)] else endsTo M k
theorem endsTo_len (M : List (List Int)) : ∀ k, (endsTo M k).length ≤ k
  | 0 => by simp [endsTo]
  | k + 1 => by
    have := endsTo_len M k
    simp only [endsTo]
    split <;> simp <;> omega
theorem endsTo_mem {M : List (List Int)} {x : Int} : ∀ {k : Nat}, x ∈ endsTo M k ↔ 0 ≤ x ∧ x < (k : Int) ∧ emptyB (M.getD x.toNat []) = true
  | 0 => by simp [endsTo]; omega
  | k + 1 => by
    have ih := endsTo_mem (M := M) (x := x) (k := k)
    simp only [endsTo]
    split
    · rename_i h
      rw [List.mem_append, ih, List.mem_singleton]
      constructor
      · rintro (⟨a, b, c⟩ | rfl)
        · exact ⟨a, by omega, c⟩
        · exact ⟨by omega, by omega, by rw [Int.toNat_natCast]; exact h⟩
      · rintro ⟨a, b, c⟩
        by_cases e : x = (k : Int)
        · exact .inr e
        · exact .inl ⟨a, by omega, c⟩
    · rename_i h
      rw [ih]
      constructor
      · rintro ⟨a, b, c⟩; exact ⟨a, by omega, c⟩
      · rintro ⟨a, b, c⟩
        refine ⟨a, ?_, c⟩
        by_cases e : x = (k : Int)
        · subst e; rw [Int.toNat_natCast] at c; exact absurd c h
        · omega
noncomputable def neverB (M : List (List Int)) (N : List (List EdgeD)) (i : Nat) : Bool := !(rchB (turnG (gN N) (gN N).length) (endsTo M M.length) i)
def dfind (dead : List Int) (still never : Int) (ts tn : List Int) : D := .agg [dints dead, .sc (.int .i64 still), .sc (.int .i64 never), dints ts, dints tn]
noncomputable def findD (P : ProcD) (M : List (List Int)) (N : List (List EdgeD)) : D :=
  dfind (deadL P N) (frst (stillB M N) M.length M.length) (frst (neverB M N) M.length M.length) (leadL N (frst (stillB M N) M.length M.length)) (leadL N (frst (neverB M N) M.length M.length))
theorem pure_dfind (dead : List Int) (still never : Int) (ts tn : List Int) : Pure (dfind dead still never ts tn) := by simp [dfind, Pure, PureL, pure_dints]
/-- All the numbers of what is looked at. -/
structure FndN (P : ProcD) (M : List (List Int)) (N : List (List EdgeD)) : Prop where
  sp : SpN M N P.stepsL.length
  steps : P.stepsE = 0
def c23_2 : PC := .seq (.ops [⟨(some 34), .bin .lss (.tmp 33) (.tmp 32), none, 0⟩] false) (.seq (.cond (.tmp 34) (.skip) (.exit 2)) (.seq (.block 3 (.seq (.ops [⟨(some 35), .iaddr 2 (.tmp 31) (.tmp 33), none, 0⟩,
    ⟨(some 36), .loadA 2 (.tmp 35), none, 0⟩,
    ⟨(some 11), .alloc [(.int .i64 0), (.int .i64 0)], none, 0⟩,
    ⟨none, .store 2 (.tmp 11) (.tmp 36), none, 0⟩] false) (.ops [⟨(some 37), .move (.tmp 7), none, 0⟩,
    ⟨(some 38), .move (.tmp 5), none, 0⟩,
    ⟨(some 39), .faddr 0 (.tmp 11), none, 0⟩,
    ⟨(some 40), .load1 (.tmp 39), none, 0⟩,
    ⟨(some 41), .iaddr 3 (.tmp 38) (.tmp 40), none, 0⟩,
    ⟨(some 42), .faddr 0 (.tmp 41), none, 0⟩,
    ⟨(some 43), .load1 (.tmp 42), none, 0⟩,
    ⟨(some 44), .iaddr 1 (.tmp 37) (.tmp 43), none, 0⟩,
    ⟨none, .store 1 (.tmp 44) (.const (.bool true)), none, 0⟩] false))) (.ops [⟨(some 45), .bin .add (.tmp 33) (.const (.int .i64 1)), none, 0⟩,
    ⟨(some 33), .move (.tmp 45), none, 0⟩] false)))
def c23_1 : PC := .seq (.ops [⟨(some 28), .bin .lss (.tmp 27) (.tmp 26), none, 0⟩] false) (.seq (.cond (.tmp 28) (.skip) (.exit 0)) (.seq (.block 1 (.seq (.ops [⟨(some 29), .iaddr 1 (.tmp 25) (.tmp 27), none, 0⟩,
    ⟨(some 30), .load1 (.tmp 29), none, 0⟩,
    ⟨(some 9), .move (.tmp 30), none, 0⟩] false) (.seq (.ops [⟨(some 31), .move (.tmp 9), none, 0⟩,
    ⟨(some 32), .len (.tmp 31), none, 0⟩,
    ⟨(some 33), .move (.const (.int .i64 0)), none, 0⟩] false) (.block 2 (.loop c23_2))))) (.ops [⟨(some 46), .bin .add (.tmp 27) (.const (.int .i64 1)), none, 0⟩,
    ⟨(some 27), .move (.tmp 46), none, 0⟩] false)))
def c23_3 : PC := .seq (.ops [⟨(some 50), .bin .lss (.tmp 49) (.tmp 48), none, 0⟩] false) (.seq (.cond (.tmp 50) (.skip) (.exit 4)) (.seq (.block 5 (.seq (.ops [⟨(some 51), .move (.tmp 49), none, 0⟩,
    ⟨(some 52), .iaddr 1 (.tmp 47) (.tmp 49), none, 0⟩,
    ⟨(some 53), .load1 (.tmp 52), none, 0⟩,
    ⟨(some 13), .move (.tmp 51), none, 0⟩,
    ⟨(some 14), .move (.tmp 53), none, 0⟩] false) (.seq (.ops [⟨(some 54), .move (.tmp 14), none, 0⟩,
    ⟨(some 55), .un .not (.tmp 54), none, 0⟩,
    ⟨(some 56), .move (.tmp 55), none, 0⟩,
    ⟨(some 57), .faddr 0 (.tmp 2), (some (56, true)), 0⟩,
    ⟨(some 58), .load1 (.tmp 57), (some (56, true)), 0⟩,
    ⟨(some 59), .move (.tmp 13), (some (56, true)), 0⟩,
    ⟨(some 60), .iaddr 2 (.tmp 58) (.tmp 59), (some (56, true)), 0⟩,
    ⟨(some 61), .faddr 1 (.tmp 60), (some (56, true)), 0⟩,
    ⟨(some 62), .load1 (.tmp 61), (some (56, true)), 0⟩,
    ⟨(some 63), .bin .neq (.tmp 62) (.const (.int .i64 1)), (some (56, true)), 0⟩,
    ⟨(some 64), .pick (.tmp 56) (.tmp 63) (.const (.bool false)), none, 0⟩] false) (.cond (.tmp 64) (.ops [⟨(some 65), .move (.tmp 12), none, 0⟩,
    ⟨(some 66), .move (.tmp 13), none, 0⟩,
    ⟨(some 67), .bslice 1 1 [(.tmp 66)], none, 0⟩,
    ⟨(some 68), .append 1 8 (.tmp 65) (.tmp 67), none, 0⟩,
    ⟨(some 12), .move (.tmp 68), none, 0⟩] false) (.skip))))) (.ops [⟨(some 69), .bin .add (.tmp 49) (.const (.int .i64 1)), none, 0⟩,
    ⟨(some 49), .move (.tmp 69), none, 0⟩] false)))
def c23 : PC := .seq (.ops [⟨(some 2), .box (.tmp 0), none, 0⟩,
    ⟨(some 3), .box (.tmp 1), none, 0⟩,
    ⟨(some 4), .move (.const (.slice none 0 0)), none, 0⟩] false) (.seq (.ops [⟨(some 16), .loadA 2 (.tmp 2), none, 0⟩,
    ⟨(some 17), .call 34 [(.tmp 16)], none, 0⟩,
    ⟨(some 15), .move (.tmp 17), none, 0⟩,
    ⟨(some 18), .ext 0 (.tmp 15), none, 0⟩,
    ⟨(some 19), .ext 1 (.tmp 15), none, 0⟩,
    ⟨(some 5), .move (.tmp 18), none, 0⟩,
    ⟨(some 6), .move (.tmp 19), none, 0⟩] false) (.seq (.ops [⟨(some 20), .faddr 0 (.tmp 2), none, 0⟩,
    ⟨(some 21), .load1 (.tmp 20), none, 0⟩,
    ⟨(some 22), .len (.tmp 21), none, 0⟩,
    ⟨(some 23), .mslice 1 1 [(.bool false)] (.tmp 22) (.tmp 22), none, 0⟩,
    ⟨(some 7), .move (.tmp 23), none, 0⟩] false) (.seq (.seq (.ops [⟨(some 24), .faddr 1 (.tmp 3), none, 0⟩,
    ⟨(some 25), .load1 (.tmp 24), none, 0⟩,
    ⟨(some 26), .len (.tmp 25), none, 0⟩,
    ⟨(some 27), .move (.const (.int .i64 0)), none, 0⟩] false) (.block 0 (.loop c23_1))) (.seq (.ops [⟨(some 12), .move (.const (.slice none 0 0)), none, 0⟩] false) (.seq (.seq (.ops [⟨(some 47), .move (.tmp 7), none, 0⟩,
    ⟨(some 48), .len (.tmp 47), none, 0⟩,
    ⟨(some 49), .move (.const (.int .i64 0)), none, 0⟩] false) (.block 4 (.loop c23_3))) (.seq (.ops [⟨(some 70), .move (.tmp 12), none, 0⟩,
    ⟨(some 4), .move (.tmp 70), none, 0⟩] false) (.ret)))))))
set_option maxRecDepth 100000 in
theorem c23_ok : FunOK Try.prog 23 71 [.tmp 4] c23 := ⟨⟨Try.f23, Try.func23, rfl, by kernel_rfl, rfl, by kernel_rfl⟩⟩
set_option maxRecDepth 100000 in
theorem so_dead (P : ProcD) (hP : P.Fits) (M : List (List Int)) (N : List (List EdgeD)) (hF : FndN P M N) : PCall Try.prog 23 [dproc P, dspace M N] (dints (deadL P N)) := by
  have hS := hF.sp
  have hf := hS.few
  have hl := hS.len
  have hnn : P.nodes.length ≤ 20 := (chk_small (ProcD.stepsE_zero hF.steps).1).1
  refine pcall_intro c23_ok (by simp) (by simp [PureL, pure_dspace, pure_dproc]) ?_ (pure_dints _)
  (apply rd_sound; focus (repeat' constructor))
  ((conv=>whnf);repeat(refine And.intro rfl ?_;(conv=>whnf)))
  (refine .inl ⟨_, (steps_Of P hP), ?_⟩; ((conv=>whnf);repeat(refine And.intro rfl ?_;(conv=>whnf))))
  rw [List.length_map]
  refine ⟨by omega, by omega, by omega, ?_⟩
  rw [Int.toNat_natCast, show List.map D.sc [Value.bool false] = [D.sc (.bool false)] from rfl, rbl_rep]
  ((conv=>whnf);repeat(refine And.intro rfl ?_;(conv=>whnf)))
  rw [erows_len]
  refine pwp_for [2, 5, 7, 25, 26] (fun n : Nat => [(27, .sc (.int .i64 n))]) (fun n => [(2, .vec true 0 1 (rbl P.nodes.length (dsTo P.stepsL N n)))]) (fun n => n ≤ N.length) (fun n => N.length - n) 0 ?_
  ((conv=>whnf);repeat(refine And.intro rfl ?_;(conv=>whnf)))
  refine ⟨by omega, by (repeat' (first | exact trivial | refine And.intro rfl ?_)), rfl, ?_⟩
  rintro n hn
  ((conv=>whnf);repeat(refine And.intro rfl ?_;(conv=>whnf)))
  (apply rd_sound; focus (repeat' constructor))
  ((conv=>whnf);repeat(refine And.intro rfl ?_;(conv=>whnf)))
  (refine ifK_split (fun h1 => ?_) (fun h1 => ?_) <;> (rw [h1]; ((conv=>whnf);repeat(refine And.intro rfl ?_;(conv=>whnf)))))
  · have hn' : n < N.length := by ((try simp only [oo, reduceCtorEq] at *) <;> omega)
    refine ⟨by omega, _, erowD_at (k := n) (by omega) hn', ?_⟩
    ((conv=>whnf);repeat(refine And.intro rfl ?_;(conv=>whnf)))
    have lx := hS.rowAt n
    have hed := fun k hk => hS.edgeAt (i := n) (k := k) hk
    have eN : dsTo P.stepsL N (n + 1) = dsRow P.stepsL (N.getD n []) (dsTo P.stepsL N n) (N.getD n []).length := rfl
    rw [prows_len]
    generalize N.getD n [] = es at lx hed eN
    generalize dsTo P.stepsL N n = s0 at eN
    refine pwp_for [2, 5, 7, 25, 26, 27, 31, 32] (fun j : Nat => [(33, .sc (.int .i64 j))]) (fun j => [(2, .vec true 0 1 (rbl P.nodes.length (dsRow P.stepsL es s0 j)))]) (fun j => j ≤ es.length) (fun j => es.length - j) 0 ?_
    ((conv=>whnf);repeat(refine And.intro rfl ?_;(conv=>whnf)))
    refine ⟨by omega, by (repeat' (first | exact trivial | refine And.intro rfl ?_)), rfl, ?_⟩
    rintro j hj
    ((conv=>whnf);repeat(refine And.intro rfl ?_;(conv=>whnf)))
    (apply rd_sound; focus (repeat' constructor))
    ((conv=>whnf);repeat(refine And.intro rfl ?_;(conv=>whnf)))
    (refine ifK_split (fun h2 => ?_) (fun h2 => ?_) <;> (rw [h2]; ((conv=>whnf);repeat(refine And.intro rfl ?_;(conv=>whnf)))))
    · have hj' : j < es.length := by ((try simp only [oo, reduceCtorEq] at *) <;> omega)
      have he := hed j hj'
      have eR : dsRow P.stepsL es s0 (j + 1) = mark (dsRow P.stepsL es s0 j) (P.stepsL.getD (es.getD j (0, 0)).1.toNat (0, 0, 0)).1.toNat := rfl
      refine ⟨by omega, _, prows_at (k := j) (by omega) hj', ?_⟩
      ((conv=>whnf);repeat(refine And.intro rfl ?_;(conv=>whnf)))
      generalize es.getD j (0, 0) = e at he eR
      have hst := (ProcD.stepAt_ok hF.steps (k := e.1.toNat) (by omega)).node
      refine ⟨by omega, _, step_atD (k := e.1.toNat) (by omega) (by omega), ?_⟩
      ((conv=>whnf);repeat(refine And.intro rfl ?_;(conv=>whnf)))
      generalize P.stepsL.getD e.1.toNat (0, 0, 0) = st at hst eR
      (refine ⟨by omega, (by first | omega | (simp; done) | (simp; omega) | (simp only [ll]; omega)), ?_⟩; ((conv=>whnf);repeat(refine And.intro rfl ?_;(conv=>whnf))))
      refine ⟨_, rbl_atN st.1.toNat (by omega) (by omega), ?_⟩
      ((conv=>whnf);repeat(refine And.intro rfl ?_;(conv=>whnf)))
      (refine .inl ⟨by (unfold InR; rw [IntKind.wrap_i64]; omega), ?_⟩; ((conv=>whnf);repeat(refine And.intro rfl ?_;(conv=>whnf))))
      refine ⟨j + 1, by omega, by dsimp only; omega, ?_⟩
      rw [rbl_mark (v := st.1.toNat) (by omega), ← eR]
      (refine leB_close 3 (by simp) rfl ?_ ?_ <;> (repeat' (first | exact trivial | exact rfl | exact DeepM.refl _ | exact DeepML.refl _ | exact DeepMLL.refl _ | refine And.intro ?_ ?_ | (simp [Under, UnderL, UnderLL, -List.map_take, -List.map_drop]; done))))
    · have hj' : j = es.length := by have : ¬ j < es.length := by ((try simp only [oo, reduceCtorEq] at *) <;> omega)
                                     omega
      subst hj'
      (refine .inl ⟨by (unfold InR; rw [IntKind.wrap_i64]; omega), ?_⟩; ((conv=>whnf);repeat(refine And.intro rfl ?_;(conv=>whnf))))
      rw [← eN]
      exact ⟨n + 1, by omega, by dsimp only; omega, leB_envH (by (repeat' (first | exact trivial | refine And.intro rfl ?_))) rfl⟩
  · have hn' : n = N.length := by have : ¬ n < N.length := by ((try simp only [oo, reduceCtorEq] at *) <;> omega)
                                  omega
    subst hn'
    have eD : deadL P N = deadTo P (dsTo P.stepsL N N.length) P.nodes.length := rfl
    generalize dsTo P.stepsL N N.length = s0 at eD
    rw [Nat.sub_zero]
    refine pwp_ghostB (leB_nil 12 1 (by simp) rfl) ?_
    refine pwp_for [2, 47, 48] (fun ((k, c, l) : Nat × Nat × List Int) => [(12, .own 3 c 0 c), (49, .sc (.int .i64 k))]) (fun (k, c, l) => [(3, .vec true c 1 (i64s l))]) (fun (k, c, l) => k ≤ P.nodes.length ∧ c = l.length ∧ c ≤ k ∧ l = deadTo P s0 k) (fun (k, c, l) => P.nodes.length - k) (0, 0, []) ?_
    ((conv=>whnf);repeat(refine And.intro rfl ?_;(conv=>whnf)))
    refine ⟨⟨by omega, rfl, by omega, rfl⟩, by (repeat' (first | exact trivial | refine And.intro rfl ?_)), rfl, ?_⟩
    clear h1 hn
    rintro ⟨k, c, l⟩ ⟨hk, hc, hck, hl'⟩
    ((conv=>whnf);repeat(refine And.intro rfl ?_;(conv=>whnf)))
    (apply rd_sound; focus (repeat' constructor))
    ((conv=>whnf);repeat(refine And.intro rfl ?_;(conv=>whnf)))
    (refine ifK_split (fun h1 => ?_) (fun h1 => ?_) <;> (rw [h1]; ((conv=>whnf);repeat(refine And.intro rfl ?_;(conv=>whnf)))))
    · have hk' : k < P.nodes.length := by ((try simp only [oo, reduceCtorEq] at *) <;> omega)
      have eT : deadTo P s0 (k + 1) = if s0 k = false ∧ P.kind k ≠ 1 then deadTo P s0 k ++ [(k : Int)] else deadTo P s0 k := rfl
      (refine ⟨by omega, (by first | omega | (simp; done) | (simp; omega) | (simp only [ll]; omega)), ?_⟩; ((conv=>whnf);repeat(refine And.intro rfl ?_;(conv=>whnf))))
      refine ⟨_, rbl_atN k (by omega) hk', ?_⟩
      ((conv=>whnf);repeat(refine And.intro rfl ?_;(conv=>whnf)))
      cases hs : s0 k
      · ((conv=>whnf);repeat(refine And.intro rfl ?_;(conv=>whnf)))
        refine ⟨by omega, _, node_at P (k := k) (by omega) hk', ?_⟩
        ((conv=>whnf);repeat(refine And.intro rfl ?_;(conv=>whnf)))
        (refine ifK_split (fun h2 => ?_) (fun h2 => ?_) <;> (rw [h2]; ((conv=>whnf);repeat(refine And.intro rfl ?_;(conv=>whnf)))))
        · have h2 : P.kind k ≠ 1 := by ((try simp only [oo, reduceCtorEq] at *) <;> omega)
          rw [if_pos ⟨hs, h2⟩] at eT
          refine ⟨(by unfold sliceAppend; simp only [ll]; omega), ?_⟩
          ((conv=>whnf);repeat(refine And.intro rfl ?_;(conv=>whnf)))
          (refine .inl ⟨by (unfold InR; rw [IntKind.wrap_i64]; omega), ?_⟩; ((conv=>whnf);repeat(refine And.intro rfl ?_;(conv=>whnf))))
          refine ⟨(k + 1, c + 1, l ++ [(k : Int)]), ⟨by omega, by simp [hc], by omega, by rw [eT, hl']⟩, by dsimp only; omega, ?_⟩
          (refine leB_close 4 (by simp) rfl ?_ ?_ <;> (repeat' (first | exact trivial | exact rfl | exact DeepM.refl _ | exact DeepML.refl _ | exact DeepMLL.refl _ | refine And.intro ?_ ?_ | (simp [Under, UnderL, UnderLL, -List.map_take, -List.map_drop]; done))))
          exact deepMLL_eq (i64s_snoc hc)
        · have h2 : P.kind k = 1 := by ((try simp only [oo, reduceCtorEq] at *) <;> omega)
          rw [if_neg (fun q => q.2 h2)] at eT
          (refine .inl ⟨by (unfold InR; rw [IntKind.wrap_i64]; omega), ?_⟩; ((conv=>whnf);repeat(refine And.intro rfl ?_;(conv=>whnf))))
          refine ⟨(k + 1, c, l), ⟨by omega, hc, by omega, by rw [eT, hl']⟩, by dsimp only; omega, ?_⟩
          (refine leB_close 4 (by simp) rfl ?_ ?_ <;> (repeat' (first | exact trivial | exact rfl | exact DeepM.refl _ | exact DeepML.refl _ | exact DeepMLL.refl _ | refine And.intro ?_ ?_ | (simp [Under, UnderL, UnderLL, -List.map_take, -List.map_drop]; done))))
      · ((conv=>whnf);repeat(refine And.intro rfl ?_;(conv=>whnf)))
        rw [if_neg (fun q => by rw [hs] at q; cases q.1)] at eT
        (refine .inl ⟨by (unfold InR; rw [IntKind.wrap_i64]; omega), ?_⟩; ((conv=>whnf);repeat(refine And.intro rfl ?_;(conv=>whnf))))
        refine ⟨(k + 1, c, l), ⟨by omega, hc, by omega, by rw [eT, hl']⟩, by dsimp only; omega, ?_⟩
        (refine leB_close 4 (by simp) rfl ?_ ?_ <;> (repeat' (first | exact trivial | exact rfl | exact DeepM.refl _ | exact DeepML.refl _ | exact DeepMLL.refl _ | refine And.intro ?_ ?_ | (simp [Under, UnderL, UnderLL, -List.map_take, -List.map_drop]; done))))
    · have hk' : k = P.nodes.length := by have : ¬ k < P.nodes.length := by ((try simp only [oo, reduceCtorEq] at *) <;> omega)
                                          omega
      subst hk'
      rw [eD, ← hl']
      exact .own _ _ _ _ _ _ _ _ rfl (by rw [List.drop_zero, List.take_of_length_le (by simp; omega)]; exact deepLL_refl _)
theorem turn_fine {g : List (List Int)} (hg : chkG g = 0) (h200 : g.length ≤ 200) : chkG (turnG g g.length) = 0 ∧ FitsG (turnG g g.length) ∧ potG (turnG g g.length) (fun _ => false) ≤ 100000 := by
  obtain ⟨hn, hin⟩ := chkG_zero.1 hg
  have hl := turnG_len g g.length
  have hmem : ∀ v x, x ∈ (turnG g g.length).getD v [] → 0 ≤ x ∧ x < (g.length : Int) := fun v x hx => by
    obtain ⟨k, hk, rfl, _⟩ := (turnG_mem (fun v y hy => by have := inB_mem (inB_row hin v) hy; omega) (Nat.le_refl _)).1 hx
    omega
  have row : ∀ l ∈ turnG g g.length, ∃ u, l = (turnG g g.length).getD u [] := fun l hl => by
    obtain ⟨u, hu, rfl⟩ := List.mem_iff_getElem.1 hl
    exact ⟨u, by rw [List.getD_eq_getElem?_getD, List.getElem?_eq_getElem hu]; rfl⟩
  have hrl := turnG_row g g.length
  refine ⟨chkG_zero.2 ⟨by omega, fun l h => ?_⟩, ⟨by omega, fun l h => ?_⟩, ?_⟩
  · obtain ⟨u, rfl⟩ := row l h
    refine inB_of fun x hx => ?_
    rw [hl]
    exact hmem u x hx
  · obtain ⟨u, rfl⟩ := row l h
    have := hrl u
    omega
  · refine Nat.le_trans (pot_le (c := 200) fun i => by have := hrl i; omega) ?_
    rw [hl]
    omega
def c6_1 : PC := .seq (.ops [⟨(some 44), .bin .lss (.tmp 43) (.tmp 42), none, 0⟩] false) (.seq (.cond (.tmp 44) (.skip) (.exit 0)) (.seq (.block 1 (.seq (.ops [⟨(some 45), .move (.tmp 43), none, 0⟩,
    ⟨(some 46), .iaddr 1 (.tmp 41) (.tmp 43), none, 0⟩,
    ⟨(some 47), .load1 (.tmp 46), none, 0⟩,
    ⟨(some 14), .move (.tmp 45), none, 0⟩,
    ⟨(some 15), .move (.tmp 47), none, 0⟩] false) (.seq (.ops [⟨(some 48), .move (.tmp 11), none, 0⟩,
    ⟨(some 49), .move (.tmp 14), none, 0⟩,
    ⟨(some 50), .faddr 1 (.tmp 8), none, 0⟩,
    ⟨(some 51), .load1 (.tmp 50), none, 0⟩,
    ⟨(some 52), .move (.tmp 14), none, 0⟩,
    ⟨(some 53), .iaddr 1 (.tmp 51) (.tmp 52), none, 0⟩,
    ⟨(some 54), .load1 (.tmp 53), none, 0⟩,
    ⟨(some 55), .len (.tmp 54), none, 0⟩,
    ⟨(some 56), .bin .eql (.tmp 55) (.const (.int .i64 0)), none, 0⟩,
    ⟨(some 57), .move (.tmp 56), none, 0⟩,
    ⟨(some 58), .move (.tmp 15), (some (57, true)), 0⟩,
    ⟨(some 59), .call 19 [(.tmp 58)], (some (57, true)), 0⟩,
    ⟨(some 60), .un .not (.tmp 59), (some (57, true)), 0⟩,
    ⟨(some 61), .pick (.tmp 57) (.tmp 60) (.const (.bool false)), none, 0⟩,
    ⟨(some 62), .iaddr 1 (.tmp 48) (.tmp 49), none, 0⟩,
    ⟨none, .store 1 (.tmp 62) (.tmp 61), none, 0⟩] false) (.seq (.ops [⟨(some 63), .move (.tmp 15), none, 0⟩,
    ⟨(some 64), .call 19 [(.tmp 63)], none, 0⟩] false) (.cond (.tmp 64) (.ops [⟨(some 65), .move (.tmp 13), none, 0⟩,
    ⟨(some 66), .move (.tmp 14), none, 0⟩,
    ⟨(some 67), .bslice 1 1 [(.tmp 66)], none, 0⟩,
    ⟨(some 68), .append 1 8 (.tmp 65) (.tmp 67), none, 0⟩,
    ⟨(some 13), .move (.tmp 68), none, 0⟩] false) (.skip)))))) (.ops [⟨(some 69), .bin .add (.tmp 43) (.const (.int .i64 1)), none, 0⟩,
    ⟨(some 43), .move (.tmp 69), none, 0⟩] false)))
def c6_2 : PC := .seq (.ops [⟨(some 85), .bin .lss (.tmp 84) (.tmp 83), none, 0⟩] false) (.seq (.cond (.tmp 85) (.skip) (.exit 2)) (.seq (.block 3 (.seq (.ops [⟨(some 86), .move (.tmp 84), none, 0⟩,
    ⟨(some 20), .move (.tmp 86), none, 0⟩] false) (.ops [⟨(some 87), .move (.tmp 12), none, 0⟩,
    ⟨(some 88), .move (.tmp 20), none, 0⟩,
    ⟨(some 89), .move (.tmp 18), none, 0⟩,
    ⟨(some 90), .move (.tmp 20), none, 0⟩,
    ⟨(some 91), .iaddr 1 (.tmp 89) (.tmp 90), none, 0⟩,
    ⟨(some 92), .load1 (.tmp 91), none, 0⟩,
    ⟨(some 93), .un .not (.tmp 92), none, 0⟩,
    ⟨(some 94), .iaddr 1 (.tmp 87) (.tmp 88), none, 0⟩,
    ⟨none, .store 1 (.tmp 94) (.tmp 93), none, 0⟩] false))) (.ops [⟨(some 95), .bin .add (.tmp 84) (.const (.int .i64 1)), none, 0⟩,
    ⟨(some 84), .move (.tmp 95), none, 0⟩] false)))
def c6 : PC := .seq (.ops [⟨(some 3), .box (.tmp 0), none, 0⟩,
    ⟨(some 6), .alloc [(.slice none 0 0), (.int .i64 0), (.int .i64 0), (.slice none 0 0), (.slice none 0 0)], none, 0⟩,
    ⟨(some 7), .move (.const (.int .i64 0)), none, 0⟩] false) (.seq (.ops [⟨(some 23), .loadA 2 (.tmp 3), none, 0⟩,
    ⟨(some 24), .move (.tmp 1), none, 0⟩,
    ⟨(some 25), .move (.tmp 2), none, 0⟩,
    ⟨(some 26), .call 18 [(.tmp 23), (.tmp 24), (.tmp 25)], none, 0⟩,
    ⟨(some 22), .move (.tmp 26), none, 0⟩,
    ⟨(some 27), .ext 0 (.tmp 22), none, 0⟩,
    ⟨(some 28), .ext 1 (.tmp 22), none, 0⟩,
    ⟨(some 8), .alloc [(.slice none 0 0), (.slice none 0 0)], none, 0⟩,
    ⟨none, .store 2 (.tmp 8) (.tmp 27), none, 0⟩,
    ⟨(some 9), .move (.tmp 28), none, 0⟩] false) (.seq (.seq (.ops [⟨(some 29), .move (.tmp 9), none, 0⟩,
    ⟨(some 30), .bin .neq (.tmp 29) (.const (.int .i64 0)), none, 0⟩] false) (.cond (.tmp 30) (.seq (.ops [⟨(some 31), .build [(.slice none 0 0), (.int .i64 0), (.int .i64 0), (.slice none 0 0), (.slice none 0 0)] [], none, 0⟩,
    ⟨(some 32), .move (.tmp 9), none, 0⟩,
    ⟨none, .store 5 (.tmp 6) (.tmp 31), none, 0⟩,
    ⟨(some 7), .move (.tmp 32), none, 0⟩] false) (.ret)) (.skip))) (.seq (.ops [⟨(some 33), .faddr 0 (.tmp 8), none, 0⟩,
    ⟨(some 34), .load1 (.tmp 33), none, 0⟩,
    ⟨(some 35), .len (.tmp 34), none, 0⟩,
    ⟨(some 10), .move (.tmp 35), none, 0⟩] false) (.seq (.ops [⟨(some 36), .move (.tmp 10), none, 0⟩,
    ⟨(some 37), .mslice 1 1 [(.bool false)] (.tmp 36) (.tmp 36), none, 1⟩,
    ⟨(some 38), .move (.tmp 10), none, 0⟩,
    ⟨(some 39), .mslice 1 1 [(.bool false)] (.tmp 38) (.tmp 38), none, 4⟩,
    ⟨(some 11), .move (.tmp 37), none, 3⟩,
    ⟨(some 12), .move (.tmp 39), none, 31⟩] true) (.seq (.ops [⟨(some 13), .move (.const (.slice none 0 0)), none, 0⟩] false) (.seq (.seq (.ops [⟨(some 40), .faddr 0 (.tmp 8), none, 0⟩,
    ⟨(some 41), .load1 (.tmp 40), none, 0⟩,
    ⟨(some 42), .len (.tmp 41), none, 0⟩,
    ⟨(some 43), .move (.const (.int .i64 0)), none, 0⟩] false) (.block 0 (.loop c6_1))) (.seq (.stop (.ops [⟨(some 71), .loadA 2 (.tmp 8), none, 0⟩,
    ⟨(some 72), .call 21 [(.tmp 71)], none, 0⟩,
    ⟨(some 73), .call 20 [(.tmp 72)], none, 0⟩,
    ⟨(some 70), .move (.tmp 73), none, 0⟩,
    ⟨(some 74), .ext 0 (.tmp 70), none, 0⟩,
    ⟨(some 75), .ext 1 (.tmp 70), none, 0⟩,
    ⟨(some 16), .move (.tmp 74), none, 0⟩,
    ⟨(some 17), .move (.tmp 75), none, 0⟩] false)) (.seq (.ops [⟨(some 77), .move (.tmp 16), none, 0⟩,
    ⟨(some 78), .move (.tmp 13), none, 0⟩,
    ⟨(some 79), .call 22 [(.tmp 77), (.tmp 78)], none, 0⟩,
    ⟨(some 76), .move (.tmp 79), none, 0⟩,
    ⟨(some 80), .ext 0 (.tmp 76), none, 0⟩,
    ⟨(some 81), .ext 1 (.tmp 76), none, 0⟩,
    ⟨(some 18), .move (.tmp 80), none, 0⟩,
    ⟨(some 19), .move (.tmp 81), none, 0⟩] false) (.seq (.seq (.ops [⟨(some 82), .move (.tmp 12), none, 0⟩,
    ⟨(some 83), .len (.tmp 82), none, 0⟩,
    ⟨(some 84), .move (.const (.int .i64 0)), none, 0⟩] false) (.block 2 (.loop c6_2))) (.seq (.stop (.ops [⟨(some 96), .loadA 2 (.tmp 3), none, 0⟩,
    ⟨(some 97), .loadA 2 (.tmp 8), none, 0⟩,
    ⟨(some 98), .call 23 [(.tmp 96), (.tmp 97)], none, 0⟩,
    ⟨(some 99), .build [(.slice none 0 0), (.int .i64 0), (.int .i64 0), (.slice none 0 0), (.slice none 0 0)] [(0, 1, (.tmp 98))], none, 0⟩,
    ⟨(some 21), .alloc [(.slice none 0 0), (.int .i64 0), (.int .i64 0), (.slice none 0 0), (.slice none 0 0)], none, 0⟩,
    ⟨none, .store 5 (.tmp 21) (.tmp 99), none, 0⟩] false)) (.seq (.ops [⟨(some 101), .loadA 2 (.tmp 8), none, 0⟩,
    ⟨(some 102), .move (.tmp 11), none, 0⟩,
    ⟨(some 103), .call 24 [(.tmp 101), (.tmp 102)], none, 0⟩,
    ⟨(some 100), .move (.tmp 103), none, 0⟩,
    ⟨(some 104), .ext 0 (.tmp 100), none, 0⟩,
    ⟨(some 105), .ext 1 (.tmp 100), none, 0⟩,
    ⟨(some 106), .faddr 1 (.tmp 21), none, 0⟩,
    ⟨none, .store 1 (.tmp 106) (.tmp 104), none, 0⟩,
    ⟨(some 107), .faddr 3 (.tmp 21), none, 0⟩,
    ⟨none, .store 1 (.tmp 107) (.tmp 105), none, 0⟩] false) (.seq (.ops [⟨(some 109), .loadA 2 (.tmp 8), none, 0⟩,
    ⟨(some 110), .move (.tmp 12), none, 0⟩,
    ⟨(some 111), .call 24 [(.tmp 109), (.tmp 110)], none, 0⟩,
    ⟨(some 108), .move (.tmp 111), none, 0⟩,
    ⟨(some 112), .ext 0 (.tmp 108), none, 0⟩,
    ⟨(some 113), .ext 1 (.tmp 108), none, 0⟩,
    ⟨(some 114), .faddr 2 (.tmp 21), none, 0⟩,
    ⟨none, .store 1 (.tmp 114) (.tmp 112), none, 0⟩,
    ⟨(some 115), .faddr 4 (.tmp 21), none, 0⟩,
    ⟨none, .store 1 (.tmp 115) (.tmp 113), none, 0⟩] false) (.seq (.ops [⟨(some 116), .loadA 5 (.tmp 21), none, 0⟩,
    ⟨none, .store 5 (.tmp 6) (.tmp 116), none, 0⟩,
    ⟨(some 7), .move (.const (.int .i64 0)), none, 0⟩] false) (.ret))))))))))))))
set_option maxRecDepth 100000 in
theorem c6_ok : FunOK Try.prog 6 117 [.agg 6 5, .tmp 7] c6 := ⟨⟨Try.f6, Try.func6, rfl, by kernel_rfl, rfl, by kernel_rfl⟩⟩
set_option maxRecDepth 100000 in
theorem so_Look1 (P : ProcD) (hP : P.Fits) (tok st : Int) (he : P.exE tok st ≠ 0) : PCall Try.prog 6 [dproc P, .sc (.int .i64 tok), .sc (.int .i64 st)] (.tup [dfind [] 0 0 [] [], .sc (.int .i64 (P.exE tok st))]) := by
  have hE := space_Explore P hP tok st
  refine pcall_intro c6_ok (by simp) (by simp [PureL, Pure, pure_dproc]) ?_ (by simp [Pure, PureL, pure_dfind])
  generalize P.exE tok st = e at *
  (apply rd_sound; focus (repeat' constructor))
  ((conv=>whnf);repeat(refine And.intro rfl ?_;(conv=>whnf)))
  (refine .inl ⟨_, hE, ?_⟩; ((conv=>whnf);repeat(refine And.intro rfl ?_;(conv=>whnf))))
  (refine ifK_split (fun h1 => ?_) (fun h1 => ?_) <;> (rw [h1]; ((conv=>whnf);repeat(refine And.intro rfl ?_;(conv=>whnf)))))
  · exact .tup _ _ (.cons _ _ _ _ (.agg _ _ (.cons _ _ _ _ (.none _) (.cons _ _ _ _ (.refl _) (.cons _ _ _ _ (.refl _) (.cons _ _ _ _ (.none _) (.cons _ _ _ _ (.none _) .nil)))))) (.cons _ _ _ _ (.refl _) .nil))
  · exfalso; ((try simp only [oo, reduceCtorEq] at *) <;> omega)
set_option maxRecDepth 100000 in
theorem so_Look0 (P : ProcD) (hP : P.Fits) (tok st : Int) (he : P.exE tok st = 0) (hF : FndN P (P.exM tok st) (P.exN tok st)) : PCall Try.prog 6 [dproc P, .sc (.int .i64 tok), .sc (.int .i64 st)] (.tup [findD P (P.exM tok st) (P.exN tok st), .sc (.int .i64 0)]) := by
  have hE := space_Explore P hP tok st
  rw [he] at hE
  generalize P.exM tok st = M at *
  generalize P.exN tok st = N at *
  have hS := hF.sp
  have hf := hS.few
  have hl := hS.len
  obtain ⟨g1, g2⟩ := hS.graph
  refine pcall_intro c6_ok (by simp) (by simp [PureL, Pure, pure_dproc]) ?_ (by unfold findD; simp [Pure, PureL, pure_dfind])
  (apply rd_sound; focus (repeat' constructor))
  ((conv=>whnf);repeat(refine And.intro rfl ?_;(conv=>whnf)))
  (refine .inl ⟨_, hE, ?_⟩; ((conv=>whnf);repeat(refine And.intro rfl ?_;(conv=>whnf))))
  rw [List.length_map]
  refine ⟨by omega, by omega, by omega, ?_⟩
  rw [Int.toNat_natCast, show List.map D.sc [Value.bool false] = [D.sc (.bool false)] from rfl, rbl_rep]
  ((conv=>whnf);repeat(refine And.intro rfl ?_;(conv=>whnf)))
  refine ⟨by omega, by omega, by omega, ?_⟩
  rw [Int.toNat_natCast, show List.map D.sc [Value.bool false] = [D.sc (.bool false)] from rfl, rbl_rep]
  ((conv=>whnf);repeat(refine And.intro rfl ?_;(conv=>whnf)))
  rw [List.length_map]
  refine pwp_ghostB (leB_nil 13 1 (by simp) rfl) ?_
  refine pwp_for [3, 6, 8, 11, 12, 41, 42] (fun ((k, c, l) : Nat × Nat × List Int) => [(13, .own 5 c 0 c), (43, .sc (.int .i64 k))]) (fun (k, c, l) => [(3, .vec true 0 1 (rbl M.length (curF (stillB M N) k false))), (5, .vec true c 1 (i64s l))]) (fun (k, c, l) => k ≤ M.length ∧ c = l.length ∧ c ≤ k ∧ l = endsTo M k) (fun (k, c, l) => M.length - k) (0, 0, []) ?_
  ((conv=>whnf);repeat(refine And.intro rfl ?_;(conv=>whnf)))
  refine ⟨⟨by omega, rfl, by omega, rfl⟩, by (repeat' (first | exact trivial | refine And.intro rfl ?_)), by dsimp only; rw [← cur_zero M.length (stillB M N)]; rfl, ?_⟩
  rintro ⟨k, c, l⟩ ⟨hk, hc, hck, hl'⟩
  ((conv=>whnf);repeat(refine And.intro rfl ?_;(conv=>whnf)))
  (apply rd_sound; focus (repeat' constructor))
  ((conv=>whnf);repeat(refine And.intro rfl ?_;(conv=>whnf)))
  (refine ifK_split (fun h1 => ?_) (fun h1 => ?_) <;> (rw [h1]; ((conv=>whnf);repeat(refine And.intro rfl ?_;(conv=>whnf)))))
  · have hk' : k < M.length := by ((try simp only [oo, reduceCtorEq] at *) <;> omega)
    have hm30 := hS.mark _ (ProcD.mem_getDL hk')
    have eT : endsTo M (k + 1) = if emptyB (M.getD k []) = true then endsTo M k ++ [(k : Int)] else endsTo M k := rfl
    have eS : stillB M N k = (decide ((N.getD k []).length = 0) && !(emptyB (M.getD k []))) := rfl
    refine ⟨by omega, _, gridD_at (k := k) (by omega) hk', ?_⟩
    ((conv=>whnf);repeat(refine And.intro rfl ?_;(conv=>whnf)))
    generalize M.getD k [] = m at hm30 eT eS
    have hEm := so_empty m (by omega)
    generalize emptyB m = em at hEm eT eS
    refine ⟨by omega, _, erowD_at (k := k) (by omega) (by omega), ?_⟩
    ((conv=>whnf);repeat(refine And.intro rfl ?_;(conv=>whnf)))
    rw [prows_len]
    generalize (N.getD k []).length = ln at eS
    cases h2 : ((ln : Int) == 0)
    · have h2 : ln ≠ 0 := by ((try simp only [oo, reduceCtorEq] at *) <;> omega)
      ((conv=>whnf);repeat(refine And.intro rfl ?_;(conv=>whnf)))
      have hst : false = stillB M N k := by rw [eS, decide_eq_false h2]; rfl
      (refine ⟨by omega, (by first | omega | (simp; done) | (simp; omega) | (simp only [ll]; omega)), ?_⟩; ((conv=>whnf);repeat(refine And.intro rfl ?_;(conv=>whnf))))
      refine ⟨_, rbl_atN k (by omega) hk', ?_⟩
      ((conv=>whnf);repeat(refine And.intro rfl ?_;(conv=>whnf)))
      (refine .inl ⟨_, hEm, ?_⟩; ((conv=>whnf);repeat(refine And.intro rfl ?_;(conv=>whnf))))
      cases em
      · ((conv=>whnf);repeat(refine And.intro rfl ?_;(conv=>whnf)))
        (refine .inl ⟨by (unfold InR; rw [IntKind.wrap_i64]; omega), ?_⟩; ((conv=>whnf);repeat(refine And.intro rfl ?_;(conv=>whnf))))
        refine ⟨(k + 1, c, l), ⟨by omega, hc, by omega, by rw [eT, hl']; rfl⟩, by dsimp only; omega, ?_⟩
        rw [cur_set (by omega), cur_next hst]
        (refine leB_close 6 (by simp) rfl ?_ ?_ <;> (repeat' (first | exact trivial | exact rfl | exact DeepM.refl _ | exact DeepML.refl _ | exact DeepMLL.refl _ | refine And.intro ?_ ?_ | (simp [Under, UnderL, UnderLL, -List.map_take, -List.map_drop]; done))))
      · ((conv=>whnf);repeat(refine And.intro rfl ?_;(conv=>whnf)))
        refine ⟨(by unfold sliceAppend; simp only [ll]; omega), ?_⟩
        ((conv=>whnf);repeat(refine And.intro rfl ?_;(conv=>whnf)))
        (refine .inl ⟨by (unfold InR; rw [IntKind.wrap_i64]; omega), ?_⟩; ((conv=>whnf);repeat(refine And.intro rfl ?_;(conv=>whnf))))
        refine ⟨(k + 1, c + 1, l ++ [(k : Int)]), ⟨by omega, by simp [hc], by omega, by rw [eT, hl']; rfl⟩, by dsimp only; omega, ?_⟩
        rw [cur_set (by omega), cur_next hst]
        (refine leB_close 6 (by simp) rfl ?_ ?_ <;> (repeat' (first | exact trivial | exact rfl | exact DeepM.refl _ | exact DeepML.refl _ | exact DeepMLL.refl _ | refine And.intro ?_ ?_ | (simp [Under, UnderL, UnderLL, -List.map_take, -List.map_drop]; done))))
        exact deepMLL_eq (i64s_snoc hc)
    · have h2 : ln = 0 := by ((try simp only [oo, reduceCtorEq] at *) <;> omega)
      ((conv=>whnf);repeat(refine And.intro rfl ?_;(conv=>whnf)))
      (refine .inl ⟨_, hEm, ?_⟩; ((conv=>whnf);repeat(refine And.intro rfl ?_;(conv=>whnf))))
      have hst : (!em) = stillB M N k := by rw [eS, decide_eq_true h2]; rfl
      (refine ⟨by omega, (by first | omega | (simp; done) | (simp; omega) | (simp only [ll]; omega)), ?_⟩; ((conv=>whnf);repeat(refine And.intro rfl ?_;(conv=>whnf))))
      refine ⟨_, rbl_atN k (by omega) hk', ?_⟩
      ((conv=>whnf);repeat(refine And.intro rfl ?_;(conv=>whnf)))
      (refine .inl ⟨_, hEm, ?_⟩; ((conv=>whnf);repeat(refine And.intro rfl ?_;(conv=>whnf))))
      cases em
      · ((conv=>whnf);repeat(refine And.intro rfl ?_;(conv=>whnf)))
        (refine .inl ⟨by (unfold InR; rw [IntKind.wrap_i64]; omega), ?_⟩; ((conv=>whnf);repeat(refine And.intro rfl ?_;(conv=>whnf))))
        refine ⟨(k + 1, c, l), ⟨by omega, hc, by omega, by rw [eT, hl']; rfl⟩, by dsimp only; omega, ?_⟩
        rw [cur_set (by omega), cur_next hst]
        (refine leB_close 6 (by simp) rfl ?_ ?_ <;> (repeat' (first | exact trivial | exact rfl | exact DeepM.refl _ | exact DeepML.refl _ | exact DeepMLL.refl _ | refine And.intro ?_ ?_ | (simp [Under, UnderL, UnderLL, -List.map_take, -List.map_drop]; done))))
      · ((conv=>whnf);repeat(refine And.intro rfl ?_;(conv=>whnf)))
        refine ⟨(by unfold sliceAppend; simp only [ll]; omega), ?_⟩
        ((conv=>whnf);repeat(refine And.intro rfl ?_;(conv=>whnf)))
        (refine .inl ⟨by (unfold InR; rw [IntKind.wrap_i64]; omega), ?_⟩; ((conv=>whnf);repeat(refine And.intro rfl ?_;(conv=>whnf))))
        refine ⟨(k + 1, c + 1, l ++ [(k : Int)]), ⟨by omega, by simp [hc], by omega, by rw [eT, hl']; rfl⟩, by dsimp only; omega, ?_⟩
        rw [cur_set (by omega), cur_next hst]
        (refine leB_close 6 (by simp) rfl ?_ ?_ <;> (repeat' (first | exact trivial | exact rfl | exact DeepM.refl _ | exact DeepML.refl _ | exact DeepMLL.refl _ | refine And.intro ?_ ?_ | (simp [Under, UnderL, UnderLL, -List.map_take, -List.map_drop]; done))))
        exact deepMLL_eq (i64s_snoc hc)
  · have hk' : k = M.length := by have : ¬ k < M.length := by ((try simp only [oo, reduceCtorEq] at *) <;> omega)
                                  omega
    subst hk'
    have hends : ∀ x ∈ l, 0 ≤ x ∧ x < (M.length : Int) := fun x hx => by rw [hl'] at hx; have := (endsTo_mem (M := M)).1 hx; omega
    refine pwp_ghostB (leB_freeze (fromN 5) (env' := [(3, .loc 0 0), (6, .loc 1 0), (8, .loc 2 0), (11, .own 3 0 0 M.length), (12, .own 4 0 0 M.length), (13, dints l)])
      (H' := [.row true P.cells, .row true [.sc (.slice none 0 0), .sc (.int .i64 0), .sc (.int .i64 0), .sc (.slice none 0 0), .sc (.slice none 0 0)], .row true (scells M N), .vec true 0 1 (rbl M.length (curF (stillB M N) M.length false)), .vec true 0 1 (rbl M.length fun _ => false), .vec false c 1 (i64s l)])
      ⟨.refl _, .refl _, .refl _, .refl _, .refl _, .own _ _ _ _ _ _ _ _ rfl rfl (deepMLL_eq (by rw [List.drop_zero, List.take_of_length_le (by simp; omega)]; rfl)), trivial⟩
      ⟨⟨.inl rfl, (fun h => by cases h), .refl _⟩, ⟨.inl rfl, (fun h => by cases h), .refl _⟩, ⟨.inl rfl, (fun h => by cases h), .refl _⟩, ⟨.inl rfl, (fun h => by cases h), rfl, rfl, .refl _⟩, ⟨.inl rfl, (fun h => by cases h), rfl, rfl, .refl _⟩, ⟨.inr ⟨rfl, rfl⟩, fun _ => rfl, rfl, rfl, .refl _⟩, trivial⟩) ?_
    rw [cur_done]
    (apply rd_sound; focus (repeat' constructor))
    ((conv=>whnf);repeat(refine And.intro rfl ?_;(conv=>whnf)))
    (refine .inl ⟨_, (so_graph M N (by omega) (fun i => by have := hS.rowAt i; omega)), ?_⟩; ((conv=>whnf);repeat(refine And.intro rfl ?_;(conv=>whnf))))
    (refine .inl ⟨_, (scc_Turn (gN N) g1 g2), ?_⟩; ((conv=>whnf);repeat(refine And.intro rfl ?_;(conv=>whnf))))
    obtain ⟨t1, t2, t3⟩ := turn_fine g1 (by rw [gN_len]; omega)
    have eB : neverB M N = fun i => !(rchB (turnG (gN N) (gN N).length) (endsTo M M.length) i) := rfl
    have hll := endsTo_len M M.length
    have tl : (turnG (gN N) (gN N).length).length = M.length := by rw [turnG_len, gN_len, hl]
    rw [← hl'] at eB hll
    have fD : findD P M N = dfind (deadL P N) (frst (stillB M N) M.length M.length) (frst (neverB M N) M.length M.length) (leadL N (frst (stillB M N) M.length M.length)) (leadL N (frst (neverB M N) M.length M.length)) := rfl
    generalize turnG (gN N) (gN N).length = tg at t1 t2 t3 tl eB
    have hR := scc_Reach tg t1 t2 l (inB_of fun x hx => by have := hends x hx; omega) (by omega)
    rw [tl] at hR
    (refine .inl ⟨_, hR, ?_⟩; ((conv=>whnf);repeat(refine And.intro rfl ?_;(conv=>whnf))))
    generalize rchB tg l = ok at eB
    refine pwp_for [3, 6, 8, 11, 12, 18, 83] (fun k : Nat => [(84, .sc (.int .i64 k))]) (fun k => [(4, .vec true 0 1 (rbl M.length (curF (neverB M N) k false)))]) (fun k => k ≤ M.length) (fun k => M.length - k) 0 ?_
    ((conv=>whnf);repeat(refine And.intro rfl ?_;(conv=>whnf)))
    refine ⟨by omega, by (repeat' (first | exact trivial | refine And.intro rfl ?_)), by rw [← cur_zero M.length (neverB M N)]; rfl, ?_⟩
    clear h1 hk
    rintro k hk
    ((conv=>whnf);repeat(refine And.intro rfl ?_;(conv=>whnf)))
    (apply rd_sound; focus (repeat' constructor))
    ((conv=>whnf);repeat(refine And.intro rfl ?_;(conv=>whnf)))
    (refine ifK_split (fun h1 => ?_) (fun h1 => ?_) <;> (rw [h1]; ((conv=>whnf);repeat(refine And.intro rfl ?_;(conv=>whnf)))))
    · have hk' : k < M.length := by ((try simp only [oo, reduceCtorEq] at *) <;> omega)
      refine ⟨by omega, _, rbl_atN k (by omega) hk', ?_⟩
      ((conv=>whnf);repeat(refine And.intro rfl ?_;(conv=>whnf)))
      (refine ⟨by omega, (by first | omega | (simp; done) | (simp; omega) | (simp only [ll]; omega)), ?_⟩; ((conv=>whnf);repeat(refine And.intro rfl ?_;(conv=>whnf))))
      refine ⟨_, rbl_atN k (by omega) hk', ?_⟩
      ((conv=>whnf);repeat(refine And.intro rfl ?_;(conv=>whnf)))
      (refine .inl ⟨by (unfold InR; rw [IntKind.wrap_i64]; omega), ?_⟩; ((conv=>whnf);repeat(refine And.intro rfl ?_;(conv=>whnf))))
      refine ⟨k + 1, by omega, by dsimp only; omega, leB_envH (by (repeat' (first | exact trivial | refine And.intro rfl ?_))) ?_⟩
      rw [cur_set (by omega), cur_next (by rw [eB])]
      rfl
    · have hk' : k = M.length := by have : ¬ k < M.length := by ((try simp only [oo, reduceCtorEq] at *) <;> omega)
                                    omega
      subst hk'
      refine pwp_ghostB (leB_freeze (fromN 3) (env' := [(3, .loc 0 0), (6, .loc 1 0), (8, .loc 2 0), (11, dbl M.length (stillB M N)), (12, dbl M.length (neverB M N))])
        (H' := [.row true P.cells, .row true [.sc (.slice none 0 0), .sc (.int .i64 0), .sc (.int .i64 0), .sc (.slice none 0 0), .sc (.slice none 0 0)], .row true (scells M N), .vec false 0 1 (rbl M.length (stillB M N)), .vec false 0 1 (rbl M.length (curF (neverB M N) M.length false)), .vec false c 1 (i64s l)])
        ⟨.refl _, .refl _, .refl _, .own _ _ _ _ _ _ _ _ rfl rfl (deepMLL_eq (rbl_all _ _)), .own _ _ _ _ _ _ _ _ rfl rfl (deepMLL_eq (by rw [rbl_all, cur_done])), trivial⟩
        ⟨⟨.inl rfl, (fun h => by cases h), .refl _⟩, ⟨.inl rfl, (fun h => by cases h), .refl _⟩, ⟨.inl rfl, (fun h => by cases h), .refl _⟩, ⟨.inr ⟨rfl, rfl⟩, fun _ => rfl, rfl, rfl, .refl _⟩, ⟨.inr ⟨rfl, rfl⟩, fun _ => rfl, rfl, rfl, .refl _⟩, ⟨.inl rfl, fun _ => rfl, rfl, rfl, .refl _⟩, trivial⟩) ?_
      have hD := so_dead P hP M N hF
      have hS1 := so_first M N _ hS (stillB M N)
      have hS2 := so_first M N _ hS (neverB M N)
      rw [fD]
      generalize frst (stillB M N) M.length M.length = f1 at *
      generalize frst (neverB M N) M.length M.length = f2 at *
      generalize leadL N f1 = l1 at *
      generalize leadL N f2 = l2 at *
      generalize deadL P N = dl at *
      (apply rd_sound; focus (repeat' constructor))
      ((conv=>whnf);repeat(refine And.intro rfl ?_;(conv=>whnf)))
      (refine .inl ⟨_, hD, ?_⟩; ((conv=>whnf);repeat(refine And.intro rfl ?_;(conv=>whnf))))
      (refine .inl ⟨_, hS1, ?_⟩; ((conv=>whnf);repeat(refine And.intro rfl ?_;(conv=>whnf))))
      (refine .inl ⟨_, hS2, ?_⟩; ((conv=>whnf);repeat(refine And.intro rfl ?_;(conv=>whnf))))
      exact .refl _
end Go.Proofs.Ytjnfahdolkgnoaa
