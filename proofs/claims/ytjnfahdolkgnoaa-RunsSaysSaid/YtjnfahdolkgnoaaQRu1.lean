/-
  The world of a process: the program's maker, over deep values. No statement is proved here.
-/
import Derived.Test.YtjnfahdolkgnoaaQRu0
import Derived.Test.YtjnfahdolkgnoaaQSoA
import Derived.Test.YtjnfahdolkgnoaaQLa
namespace Go.Proofs.Ytjnfahdolkgnoaa
open Go.RowKit
set_option linter.unusedSimpArgs false
set_option linter.unusedVariables false
/-! ### Plain -/
def atsL (N : List (List EdgeD)) (m : Nat) : List Int := gl m fun t => (atL N t : Int)
def mansL (N : List (List EdgeD)) (m : Nat) : List Int := gl m fun t => (manyL N t : Int)
theorem gl_succ (n : Nat) (g : Nat → Int) : gl (n + 1) g = gl n g ++ [g n] := by simp [gl, List.range_succ]
def inTo (N : List (List EdgeD)) (m k : Nat) : List EdgeD := ((N.getD m []).take k).map fun x => (x.1, (m : Int))
theorem inTo_zero (N : List (List EdgeD)) (m : Nat) : inTo N m 0 = [] := by simp [inTo]
theorem inTo_succ {N : List (List EdgeD)} {m k : Nat} (h : k < (N.getD m []).length) : inTo N m (k + 1) = inTo N m k ++ [(((N.getD m []).getD k (0, 0)).1, (m : Int))] := by
  unfold inTo
  rw [List.take_add_one, List.getElem?_eq_getElem h, List.getD_eq_getElem?_getD (l := N.getD m []), List.getElem?_eq_getElem h, List.map_append]
  rfl
theorem inTo_len {N : List (List EdgeD)} {m k : Nat} (h : k ≤ (N.getD m []).length) : (inTo N m k).length = k := by
  simp only [inTo, List.length_map, List.length_take]; omega
theorem ofTo_len (N : List (List EdgeD)) (m : Nat) : (ofTo N m).length = atL N m := rfl
theorem ofTo_next (N : List (List EdgeD)) (m : Nat) : ofTo N (m + 1) = if (N.getD m []).length = 0 then ofTo N m ++ [(-1, (m : Int))] else ofTo N m ++ inTo N m (N.getD m []).length := by
  simp only [ofTo, stOf, inTo, List.take_length]
  split <;> rfl
theorem at_le {N : List (List EdgeD)} {c : Nat} (h : ∀ i, (N.getD i []).length ≤ c) (hc : 1 ≤ c) : ∀ m, atL N m ≤ c * m
  | 0 => by simp [atL, ofTo]
  | m + 1 => by
    rw [at_succ, many_eq, Nat.mul_succ]
    have := at_le h hc m
    have := h m
    split <;> omega
theorem at_small {M : List (List Int)} {N : List (List EdgeD)} {s : Nat} (h : SpN M N s) {m : Nat} (hm : m ≤ N.length) : atL N m ≤ 12000 := by
  have h1 := at_le (N := N) (c := 60) h.rowAt (by omega) m
  have := h.few
  have := h.len
  omega
theorem many_small {M : List (List Int)} {N : List (List EdgeD)} {s : Nat} (h : SpN M N s) (m : Nat) : manyL N m ≤ 60 := by
  rw [many_eq]
  have := h.rowAt m
  split <;> omega
theorem max_many (N : List (List EdgeD)) (m : Nat) : max (1 : Int) ((N.getD m []).length : Int) = (manyL N m : Int) := by
  rw [many_eq]
  split <;> omega
/-! ### The maker -/
def mrow (L : List StepD) (M : List (List Int)) (N : List (List EdgeD)) (o a y : D) : List D :=
  [dsteps L, dgrid M, .lst 1 (erows N), o, a, y, .sc (.slice none 0 0), .sc (.slice none 0 0), .sc (.slice none 0 0), .sc (.slice none 0 0)]
def c35_2 : PC := .seq (.ops [⟨(some 35), .bin .lss (.tmp 34) (.tmp 33), none, 0⟩] false) (.seq (.cond (.tmp 35) (.skip) (.exit 2)) (.seq (.block 3 (.seq (.ops [⟨(some 36), .iaddr 2 (.tmp 32) (.tmp 34), none, 0⟩,
    ⟨(some 37), .loadA 2 (.tmp 36), none, 0⟩,
    ⟨(some 6), .alloc [(.int .i64 0), (.int .i64 0)], none, 0⟩,
    ⟨none, .store 2 (.tmp 6) (.tmp 37), none, 0⟩] false) (.ops [⟨(some 38), .move (.tmp 0), none, 0⟩,
    ⟨(some 39), .move (.tmp 0), none, 0⟩,
    ⟨(some 40), .nilchk (.tmp 39), none, 2⟩,
    ⟨(some 41), .faddr 3 (.tmp 40), none, 6⟩,
    ⟨(some 42), .load1 (.tmp 41), none, 14⟩,
    ⟨(some 43), .faddr 0 (.tmp 6), none, 0⟩,
    ⟨(some 44), .load1 (.tmp 43), none, 32⟩,
    ⟨(some 45), .move (.tmp 3), none, 0⟩,
    ⟨(some 46), .build [(.int .i64 0), (.int .i64 0)] [(0, 1, (.tmp 44)), (1, 1, (.tmp 45))], none, 224⟩,
    ⟨(some 47), .bslice 2 1 [(.tmp 46)], none, 480⟩,
    ⟨(some 48), .append 2 16 (.tmp 42) (.tmp 47), none, 1022⟩,
    ⟨(some 49), .nilchk (.tmp 38), none, 2047⟩,
    ⟨(some 50), .faddr 3 (.tmp 49), none, 4095⟩,
    ⟨none, .store 1 (.tmp 50) (.tmp 48), none, 8191⟩] true))) (.ops [⟨(some 51), .bin .add (.tmp 34) (.const (.int .i64 1)), none, 0⟩,
    ⟨(some 34), .move (.tmp 51), none, 0⟩] false)))
def c35_1 : PC := .seq (.ops [⟨(some 14), .bin .lss (.tmp 13) (.tmp 12), none, 0⟩] false) (.seq (.cond (.tmp 14) (.skip) (.exit 0)) (.seq (.block 1 (.seq (.ops [⟨(some 15), .move (.tmp 13), none, 0⟩,
    ⟨(some 16), .iaddr 1 (.tmp 11) (.tmp 13), none, 0⟩,
    ⟨(some 17), .load1 (.tmp 16), none, 0⟩,
    ⟨(some 3), .move (.tmp 15), none, 0⟩,
    ⟨(some 4), .move (.tmp 17), none, 0⟩] false) (.seq (.ops [⟨(some 18), .move (.tmp 0), none, 0⟩,
    ⟨(some 19), .move (.tmp 0), none, 0⟩,
    ⟨(some 20), .nilchk (.tmp 19), none, 2⟩,
    ⟨(some 21), .faddr 4 (.tmp 20), none, 6⟩,
    ⟨(some 22), .load1 (.tmp 21), none, 14⟩,
    ⟨(some 23), .move (.tmp 0), none, 0⟩,
    ⟨(some 24), .nilchk (.tmp 23), none, 32⟩,
    ⟨(some 25), .faddr 3 (.tmp 24), none, 96⟩,
    ⟨(some 26), .load1 (.tmp 25), none, 224⟩,
    ⟨(some 27), .len (.tmp 26), none, 480⟩,
    ⟨(some 28), .bslice 1 1 [(.tmp 27)], none, 992⟩,
    ⟨(some 29), .append 1 8 (.tmp 22) (.tmp 28), none, 2046⟩,
    ⟨(some 30), .nilchk (.tmp 18), none, 4095⟩,
    ⟨(some 31), .faddr 4 (.tmp 30), none, 8191⟩,
    ⟨none, .store 1 (.tmp 31) (.tmp 29), none, 16383⟩] true) (.seq (.seq (.ops [⟨(some 32), .move (.tmp 4), none, 0⟩,
    ⟨(some 33), .len (.tmp 32), none, 0⟩,
    ⟨(some 34), .move (.const (.int .i64 0)), none, 0⟩] false) (.block 2 (.loop c35_2))) (.seq (.seq (.ops [⟨(some 52), .move (.tmp 4), none, 0⟩,
    ⟨(some 53), .len (.tmp 52), none, 0⟩,
    ⟨(some 54), .bin .eql (.tmp 53) (.const (.int .i64 0)), none, 0⟩] false) (.cond (.tmp 54) (.ops [⟨(some 55), .move (.tmp 0), none, 0⟩,
    ⟨(some 56), .move (.tmp 0), none, 0⟩,
    ⟨(some 57), .nilchk (.tmp 56), none, 0⟩,
    ⟨(some 58), .faddr 3 (.tmp 57), none, 0⟩,
    ⟨(some 59), .load1 (.tmp 58), none, 0⟩,
    ⟨(some 60), .move (.tmp 3), none, 0⟩,
    ⟨(some 61), .build [(.int .i64 0), (.int .i64 0)] [(0, 1, (.const (.int .i64 (-1)))), (1, 1, (.tmp 60))], none, 0⟩,
    ⟨(some 62), .bslice 2 1 [(.tmp 61)], none, 0⟩,
    ⟨(some 63), .append 2 16 (.tmp 59) (.tmp 62), none, 0⟩,
    ⟨(some 64), .nilchk (.tmp 55), none, 0⟩,
    ⟨(some 65), .faddr 3 (.tmp 64), none, 0⟩,
    ⟨none, .store 1 (.tmp 65) (.tmp 63), none, 0⟩] false) (.skip))) (.ops [⟨(some 66), .move (.tmp 0), none, 0⟩,
    ⟨(some 67), .move (.tmp 0), none, 0⟩,
    ⟨(some 68), .nilchk (.tmp 67), none, 0⟩,
    ⟨(some 69), .faddr 5 (.tmp 68), none, 0⟩,
    ⟨(some 70), .load1 (.tmp 69), none, 0⟩,
    ⟨(some 71), .move (.tmp 4), none, 0⟩,
    ⟨(some 72), .len (.tmp 71), none, 0⟩,
    ⟨(some 73), .mx true (.const (.int .i64 1)) (.tmp 72), none, 0⟩,
    ⟨(some 74), .bslice 1 1 [(.tmp 73)], none, 0⟩,
    ⟨(some 75), .append 1 8 (.tmp 70) (.tmp 74), none, 0⟩,
    ⟨(some 76), .nilchk (.tmp 66), none, 0⟩,
    ⟨(some 77), .faddr 5 (.tmp 76), none, 0⟩,
    ⟨none, .store 1 (.tmp 77) (.tmp 75), none, 0⟩] false)))))) (.ops [⟨(some 78), .bin .add (.tmp 13) (.const (.int .i64 1)), none, 0⟩,
    ⟨(some 13), .move (.tmp 78), none, 0⟩] false)))
def c35 : PC := .seq (.ops [⟨(some 2), .move (.const (.bool false)), none, 0⟩] false) (.seq (.seq (.ops [⟨(some 7), .move (.tmp 0), none, 0⟩,
    ⟨(some 8), .nilchk (.tmp 7), none, 0⟩,
    ⟨(some 9), .faddr 1 (.tmp 8), none, 0⟩,
    ⟨(some 10), .faddr 1 (.tmp 9), none, 0⟩,
    ⟨(some 11), .load1 (.tmp 10), none, 0⟩,
    ⟨(some 12), .len (.tmp 11), none, 0⟩,
    ⟨(some 13), .move (.const (.int .i64 0)), none, 0⟩] false) (.block 0 (.loop c35_1))) (.seq (.ops [⟨(some 79), .move (.tmp 0), none, 0⟩,
    ⟨(some 80), .nilchk (.tmp 79), none, 0⟩,
    ⟨(some 81), .faddr 3 (.tmp 80), none, 0⟩,
    ⟨(some 82), .load1 (.tmp 81), none, 0⟩,
    ⟨(some 83), .len (.tmp 82), none, 0⟩,
    ⟨(some 84), .bin .leq (.tmp 83) (.const (.int .i64 600)), none, 0⟩,
    ⟨(some 2), .move (.tmp 84), none, 0⟩] false) (.ret)))
set_option maxRecDepth 100000 in
theorem c35_ok : FunOK Try.prog 35 85 [.tmp 2] c35 := ⟨⟨Try.f35, Try.func35, rfl, by kernel_rfl, rfl, by kernel_rfl⟩⟩
set_option maxRecDepth 100000 in
theorem runs_states (L : List StepD) (M : List (List Int)) (N : List (List EdgeD)) (s : Nat) (hS : SpN M N s) :
    ACall Try.prog 35 [.loc 0 0] [.row true (mrow L M N (.sc (.slice none 0 0)) (.sc (.slice none 0 0)) (.sc (.slice none 0 0)))] (.sc (.bool (decide ((atL N N.length : Int) ≤ 600))))
      [.row true (mrow L M N (.own 1 (atL N N.length) 0 (atL N N.length)) (.own 2 N.length 0 N.length) (.own 3 N.length 0 N.length)), .vec true (atL N N.length) 2 (prows (ofTo N N.length)), .vec true N.length 1 (i64s (atsL N N.length)), .vec true N.length 1 (i64s (mansL N N.length))] := by
  have hf := hS.few
  have hl := hS.len
  refine acall_intro c35_ok (by simp) (by simp) ?_ (by simp [Under]) (by simp [AObj.under, mrow, UnderL, Under])
  unfold mrow
  (apply rd_sound; focus (repeat' constructor))
  ((conv=>whnf);repeat(refine And.intro rfl ?_;(conv=>whnf)))
  rw [erows_len]
  refine pwp_ghostB (leB_trans (leB_nilc 0 3 2 (by simp) rfl rfl) (leB_trans (leB_nilc 0 4 1 (by simp) rfl rfl) (leB_nilc 0 5 1 (by simp) rfl rfl))) ?_
  refine pwp_forH [0, 11, 12] (fun ((m, a) : Nat × Nat) => [(13, .sc (.int .i64 m))])
    (fun (m, a) => [.row true [dsteps L, dgrid M, .lst 1 (erows N), .own 1 a 0 a, .own 2 m 0 m, .own 3 m 0 m, .sc (.slice none 0 0), .sc (.slice none 0 0), .sc (.slice none 0 0), .sc (.slice none 0 0)], .vec true a 2 (prows (ofTo N m)), .vec true m 1 (i64s (atsL N m)), .vec true m 1 (i64s (mansL N m))])
    (fun (m, a) => m ≤ N.length ∧ a = atL N m) (fun (m, a) => N.length - m) (0, 0) ?_
  ((conv=>whnf);repeat(refine And.intro rfl ?_;(conv=>whnf)))
  refine ⟨⟨by omega, rfl⟩, by (repeat' (first | exact trivial | refine And.intro rfl ?_)), rfl, ?_⟩
  rintro ⟨m, a⟩ ⟨hm, ha⟩
  have haS := at_small hS hm
  ((conv=>whnf);repeat(refine And.intro rfl ?_;(conv=>whnf)))
  (apply rd_sound; focus (repeat' constructor))
  ((conv=>whnf);repeat(refine And.intro rfl ?_;(conv=>whnf)))
  (refine ifK_split (fun h1 => ?_) (fun h1 => ?_) <;> (rw [h1]; ((conv=>whnf);repeat(refine And.intro rfl ?_;(conv=>whnf)))))
  · have hm' : m < N.length := by ((try simp only [oo, reduceCtorEq] at *) <;> omega)
    have lx := hS.rowAt m
    have la1 : atsL N (m + 1) = atsL N m ++ [(atL N m : Int)] := gl_succ _ _
    have la2 : mansL N (m + 1) = mansL N m ++ [(manyL N m : Int)] := gl_succ _ _
    have e1 := ofTo_next N m
    have e2 := at_succ N m
    have e3 := many_eq N m
    have e4 := max_many N m
    have hin := fun k (hk : k < (N.getD m []).length) => inTo_succ hk
    have hinl := fun k (hk : k ≤ (N.getD m []).length) => inTo_len hk
    have l1 : (atsL N m).length = m := by simp [atsL]
    have l2 : (mansL N m).length = m := by simp [mansL]
    have l3 : (ofTo N m).length = a := by rw [ha]; rfl
    have hin0 := inTo_zero N m
    have hmp := many_small hS m
    refine ⟨by omega, _, erowD_at (L := N) (k := m) (by omega) hm', ?_⟩
    ((conv=>whnf);repeat(refine And.intro rfl ?_;(conv=>whnf)))
    generalize N.getD m [] = l at *
    refine ⟨(by unfold sliceAppend; simp only [ll]; omega), ?_⟩
    ((conv=>whnf);repeat(refine And.intro rfl ?_;(conv=>whnf)))
    rw [prows_len]
    refine pwp_forH [0, 3, 4, 11, 12, 13, 32, 33] (fun ((k, c) : Nat × Nat) => [(34, .sc (.int .i64 k))])
      (fun (k, c) => [.row true [dsteps L, dgrid M, .lst 1 (erows N), .own 1 c 0 c, .own 2 (m + 1) 0 (m + 1), .own 3 m 0 m, .sc (.slice none 0 0), .sc (.slice none 0 0), .sc (.slice none 0 0), .sc (.slice none 0 0)], .vec true c 2 (prows (ofTo N m ++ inTo N m k)), .vec true (m + 1) 1 (i64s (atsL N m ++ [(atL N m : Int)])), .vec true m 1 (i64s (mansL N m)), .vec true 0 1 [[.sc (.int .i64 a)]]])
      (fun (k, c) => k ≤ l.length ∧ c = a + k) (fun (k, c) => l.length - k) (0, a) ?_
    ((conv=>whnf);repeat(refine And.intro rfl ?_;(conv=>whnf)))
    refine ⟨⟨by omega, rfl⟩, by (repeat' (first | exact trivial | refine And.intro rfl ?_)), ?_, ?_⟩
    · have hx : List.drop 0 (List.take m (i64s (atsL N m))) ++ [[D.sc (.int .i64 ((a - 0 : Nat) : Int))]] = i64s (atsL N m ++ [(atL N m : Int)]) := by rw [i64s_snoc l1.symm, Nat.sub_zero, ha]
      dsimp only
      rw [hin0, List.append_nil, ← hx]
      rfl
    rintro ⟨k, c⟩ ⟨hk, hc⟩
    have hil := hinl k hk
    ((conv=>whnf);repeat(refine And.intro rfl ?_;(conv=>whnf)))
    (apply rd_sound; focus (repeat' constructor))
    ((conv=>whnf);repeat(refine And.intro rfl ?_;(conv=>whnf)))
    (refine ifK_split (fun h2 => ?_) (fun h2 => ?_) <;> (rw [h2]; ((conv=>whnf);repeat(refine And.intro rfl ?_;(conv=>whnf)))))
    · have hk' : k < l.length := by ((try simp only [oo, reduceCtorEq] at *) <;> omega)
      have hi1 := hin k hk'
      refine ⟨by omega, _, prows_at (k := k) (by omega) hk', ?_⟩
      ((conv=>whnf);repeat(refine And.intro rfl ?_;(conv=>whnf)))
      generalize l.getD k (0, 0) = x at hi1
      refine ⟨(by unfold sliceAppend; simp only [ll]; omega), ?_⟩
      ((conv=>whnf);repeat(refine And.intro rfl ?_;(conv=>whnf)))
      (refine .inl ⟨by (unfold InR; rw [IntKind.wrap_i64]; omega), ?_⟩; ((conv=>whnf);repeat(refine And.intro rfl ?_;(conv=>whnf))))
      refine ⟨(k + 1, c + 1), ⟨by omega, by omega⟩, by dsimp only; omega, ?_⟩
      dsimp only
      rw [hi1]
      (refine leB_close 5 (by simp) rfl ?_ ?_ <;> (repeat' (first | exact trivial | exact rfl | exact DeepM.refl _ | exact DeepML.refl _ | exact DeepMLL.refl _ | refine And.intro ?_ ?_ | (simp [Under, UnderL, UnderLL, -List.map_take, -List.map_drop]; done))))
      rw [← List.append_assoc]
      exact deepMLL_eq (prows_snoc (by rw [List.length_append, l3, hil, hc]))
    · have hk' : k = l.length := by have : ¬ k < l.length := by ((try simp only [oo, reduceCtorEq] at *) <;> omega)
                                    omega
      subst hk'
      rw [prows_len]
      (refine ifK_split (fun h3 => ?_) (fun h3 => ?_) <;> (rw [h3]; ((conv=>whnf);repeat(refine And.intro rfl ?_;(conv=>whnf)))))
      · have h3 : l.length = 0 := by ((try simp only [oo, reduceCtorEq] at *) <;> omega)
        rw [if_pos h3] at e1 e3
        refine ⟨(by unfold sliceAppend; simp only [ll]; omega), ?_⟩
        ((conv=>whnf);repeat(refine And.intro rfl ?_;(conv=>whnf)))
        rw [prows_len, e4]
        refine ⟨(by unfold sliceAppend; simp only [ll]; omega), ?_⟩
        ((conv=>whnf);repeat(refine And.intro rfl ?_;(conv=>whnf)))
        (refine .inl ⟨by (unfold InR; rw [IntKind.wrap_i64]; omega), ?_⟩; ((conv=>whnf);repeat(refine And.intro rfl ?_;(conv=>whnf))))
        refine ⟨(m + 1, c + 1), ⟨by omega, by omega⟩, by dsimp only; omega, ?_⟩
        dsimp only
        rw [la1, la2, e1]
        (refine leB_close 4 (by simp) rfl ?_ ?_ <;> (repeat' (first | exact trivial | exact rfl | exact DeepM.refl _ | exact DeepML.refl _ | exact DeepMLL.refl _ | refine And.intro ?_ ?_ | (simp [Under, UnderL, UnderLL, -List.map_take, -List.map_drop]; done))))
        · refine deepMLL_eq ?_
          rw [h3, hin0, List.append_nil]
          exact prows_snoc (by omega)
        · exact deepMLL_eq (i64s_snoc l2.symm)
      · have h3 : ¬ l.length = 0 := by ((try simp only [oo, reduceCtorEq] at *) <;> omega)
        rw [if_neg h3] at e1 e3
        rw [prows_len, e4]
        refine ⟨(by unfold sliceAppend; simp only [ll]; omega), ?_⟩
        ((conv=>whnf);repeat(refine And.intro rfl ?_;(conv=>whnf)))
        (refine .inl ⟨by (unfold InR; rw [IntKind.wrap_i64]; omega), ?_⟩; ((conv=>whnf);repeat(refine And.intro rfl ?_;(conv=>whnf))))
        refine ⟨(m + 1, c), ⟨by omega, by omega⟩, by dsimp only; omega, ?_⟩
        dsimp only
        rw [la1, la2, e1]
        (refine leB_close 4 (by simp) rfl ?_ ?_ <;> (repeat' (first | exact trivial | exact rfl | exact DeepM.refl _ | exact DeepML.refl _ | exact DeepMLL.refl _ | refine And.intro ?_ ?_ | (simp [Under, UnderL, UnderLL, -List.map_take, -List.map_drop]; done))))
        exact deepMLL_eq (i64s_snoc l2.symm)
  · have hm' : m = N.length := by have : ¬ m < N.length := by ((try simp only [oo, reduceCtorEq] at *) <;> omega)
                                  omega
    subst hm'
    subst ha
    rw [Nat.sub_zero]
    exact ⟨rfl, rfl, Nat.le_refl _⟩
/-! ### What the maker holds when its states are known -/
def u64s (l : List Int) : List (List D) := l.map fun n => [.sc (.int .u64 n)]
theorem pure_u64s (l : List Int) : PureLL (u64s l) := pureLL_map _ (fun l => by simp [PureL, Pure]) l
@[simp] theorem underLL_u64s {m : Nat} (l : List Int) : UnderLL m (u64s l) ↔ True := ⟨fun _ => trivial, fun _ => underLL_pure _ (pure_u64s l)⟩
theorem u64s_snoc {l : List Int} {c : Nat} {x : Int} (h : c = l.length) : List.drop 0 (List.take c (u64s l)) ++ [[D.sc (.int .u64 x)]] = u64s (l ++ [x]) := by
  rw [List.drop_zero, List.take_of_length_le (by simp [h, u64s])]
  simp [u64s]
def mbox (L : List StepD) (M : List (List Int)) (N : List (List EdgeD)) (dS : D) (a x b y c z : Nat) : List D :=
  [dsteps L, dgrid M, .lst 1 (erows N), dpairs (ofTo N N.length), dints (atsL N N.length), dints (mansL N N.length), dS, .own a x 0 x, .own b y 0 y, .own c z 0 z]
def mheap (L : List StepD) (M : List (List Int)) (N : List (List EdgeD)) (dS : D) (x y z : Nat) (X : List (List Int)) (Y : List Int) (Z : List (List Int)) : List AObj :=
  [.row true (mbox L M N dS 1 x 2 y 3 z), .vec true x 1 (grows X), .vec true y 1 (u64s Y), .vec true z 1 (grows Z)]
theorem mbox_ren {ρ : Nat → Nat} {L : List StepD} {M : List (List Int)} {N : List (List EdgeD)} {dS : D} (hd : Pure dS) {a x b y c z : Nat} : renL ρ (mbox L M N dS a x b y c z) = mbox L M N dS (ρ a) x (ρ b) y (ρ c) z := by
  have h1 := ren_pure (ρ := ρ) _ (pure_dsteps L)
  have h2 := ren_pure (ρ := ρ) _ (pure_dgrid M)
  have h3 := ren_pure (ρ := ρ) (.lst 1 (erows N)) (by simp only [Pure]; exact pure_erows N)
  have h4 := ren_pure (ρ := ρ) _ (pure_dpairs (ofTo N N.length))
  have h5 := ren_pure (ρ := ρ) _ (pure_dints (atsL N N.length))
  have h6 := ren_pure (ρ := ρ) _ (pure_dints (mansL N N.length))
  have h7 := ren_pure (ρ := ρ) _ hd
  unfold mbox
  simp only [renL, h1, h2, h3, h4, h5, h6, h7]
  rfl
theorem under_mbox {k : Nat} {L : List StepD} {M : List (List Int)} {N : List (List EdgeD)} {dS : D} (hd : Pure dS) {a x b y c z : Nat} (ha : a < k) (hb : b < k) (hc : c < k) : UnderL k (mbox L M N dS a x b y c z) := by
  have h1 := under_pure (m := k) _ (pure_dsteps L)
  have h2 := under_pure (m := k) _ (pure_dgrid M)
  have h3 := under_pure (m := k) (.lst 1 (erows N)) (by simp only [Pure]; exact pure_erows N)
  have h4 := under_pure (m := k) _ (pure_dpairs (ofTo N N.length))
  have h5 := under_pure (m := k) _ (pure_dints (atsL N N.length))
  have h6 := under_pure (m := k) _ (pure_dints (mansL N N.length))
  have h7 := under_pure (m := k) _ hd
  unfold mbox
  exact ⟨h1, h2, h3, h4, h5, h6, h7, ha, hb, hc, trivial⟩
theorem under_mheap {k : Nat} (hk : 4 ≤ k) {L : List StepD} {M : List (List Int)} {N : List (List EdgeD)} {dS : D} (hd : Pure dS) {x y z : Nat} {X : List (List Int)} {Y : List Int} {Z : List (List Int)} : UnderO k (mheap L M N dS x y z X Y Z) :=
  ⟨under_mbox hd (by omega) (by omega) (by omega), by simp [AObj.under], by simp [AObj.under], by simp [AObj.under], trivial⟩
theorem close_mheap {L : List StepD} {M : List (List Int)} {N : List (List EdgeD)} {dS : D} (hd : Pure dS) {x y z : Nat} {X : List (List Int)} {Y : List Int} {Z : List (List Int)} {G R : List AObj} : closeH 4 G (mheap L M N dS x y z X Y Z ++ R) (mheap L M N dS x y z X Y Z) :=
  closeH_same _ _ fun o ho => underO_mem (under_mheap (Nat.le_refl _) hd) o ho
/-- A contract of the maker that reads alone, wherever the maker lies. -/
theorem aread_m {f : FuncId} {rest : List D} {d : D} {L : List StepD} {M : List (List Int)} {N : List (List EdgeD)} {dS : D} (hd : Pure dS) {x y z : Nat} {X : List (List Int)} {Y : List Int} {Z : List (List Int)}
    (hA : ACall Try.prog f (.loc 0 0 :: rest) (mheap L M N dS x y z X Y Z) d (mheap L M N dS x y z X Y Z)) (hr : PureL rest) (hp : Pure d) {H : List AObj} (m a b c : Nat) (hn : [m, a, b, c].Nodup)
    (h0 : H[m]? = some (.row true (mbox L M N dS a x b y c z))) (h1 : H[a]? = some (.vec true x 1 (grows X))) (h2 : H[b]? = some (.vec true y 1 (u64s Y))) (h3 : H[c]? = some (.vec true z 1 (grows Z))) : ARead Try.prog f (.loc m 0 :: rest) H d [m, a, b, c] := by
  refine aread_of hA [m, a, b, c] rfl hn ⟨by simp [Under, mheap], underL_pure _ hr⟩ (under_mheap (Nat.le_refl _) hd) (by simp only [renL, renL_pure _ hr]; rfl) (ren_pure _ hp) (fun i o ho => ?_) m (by simp) h0 (by simp) (fun id hid => ?_)
  · have key : ∀ {i : Nat} {q p : AObj}, (mheap L M N dS x y z X Y Z)[i]? = some q → H[[m, a, b, c].getD i 0]? = some p → q.ren (fun i => [m, a, b, c].getD i 0) = p → (mheap L M N dS x y z X Y Z)[i]? = some o → H[[m, a, b, c].getD i 0]? = some (o.ren fun i => [m, a, b, c].getD i 0) := fun k1 k2 k3 k4 => by
      rw [k1] at k4
      cases k4
      rw [k3]; exact k2
    match i with
    | 0 => exact key rfl h0 (by simp only [AObj.ren, mbox_ren hd]; rfl) ho
    | 1 => exact key rfl h1 (by simp only [AObj.ren, renLL_pure _ (pure_grows X)]) ho
    | 2 => exact key rfl h2 (by simp only [AObj.ren, renLL_pure _ (pure_u64s Y)]) ho
    | 3 => exact key rfl h3 (by simp only [AObj.ren, renLL_pure _ (pure_grows Z)]) ho
    | i + 4 => simp [mheap] at ho
  · simp only [List.mem_cons, List.not_mem_nil, or_false] at hid
    rcases hid with rfl | rfl | rfl | rfl
    · exact .inl rfl
    · exact .inr ⟨x, 0, x, by simp [mbox]⟩
    · exact .inr ⟨y, 0, y, by simp [mbox]⟩
    · exact .inr ⟨z, 0, z, by simp [mbox]⟩
theorem pure_sc (v : Value) : Pure (.sc v) := by simp [Pure]
def c38_1 : PC := .seq (.ops [⟨(some 15), .bin .lss (.tmp 14) (.tmp 13), none, 0⟩] false) (.seq (.cond (.tmp 15) (.skip) (.exit 0)) (.seq (.block 1 (.seq (.ops [⟨(some 16), .move (.tmp 14), none, 0⟩,
    ⟨(some 6), .move (.tmp 16), none, 0⟩] false) (.ops [⟨(some 17), .move (.tmp 5), none, 0⟩,
    ⟨(some 18), .move (.tmp 0), none, 0⟩,
    ⟨(some 19), .nilchk (.tmp 18), none, 0⟩,
    ⟨(some 20), .faddr 4 (.tmp 19), none, 0⟩,
    ⟨(some 21), .load1 (.tmp 20), none, 0⟩,
    ⟨(some 22), .move (.tmp 1), none, 0⟩,
    ⟨(some 23), .iaddr 1 (.tmp 21) (.tmp 22), none, 0⟩,
    ⟨(some 24), .load1 (.tmp 23), none, 0⟩,
    ⟨(some 25), .move (.tmp 6), none, 0⟩,
    ⟨(some 26), .bin .add (.tmp 24) (.tmp 25), none, 0⟩,
    ⟨(some 27), .bslice 1 1 [(.tmp 26)], none, 0⟩,
    ⟨(some 28), .append 1 8 (.tmp 17) (.tmp 27), none, 0⟩,
    ⟨(some 5), .move (.tmp 28), none, 0⟩] false))) (.ops [⟨(some 29), .bin .add (.tmp 14) (.const (.int .i64 1)), none, 0⟩,
    ⟨(some 14), .move (.tmp 29), none, 0⟩] false)))
def c38 : PC := .seq (.ops [⟨(some 4), .move (.const (.slice none 0 0)), none, 0⟩] false) (.seq (.ops [⟨(some 5), .move (.const (.slice none 0 0)), none, 0⟩] false) (.seq (.seq (.ops [⟨(some 7), .move (.tmp 0), none, 0⟩,
    ⟨(some 8), .nilchk (.tmp 7), none, 0⟩,
    ⟨(some 9), .faddr 5 (.tmp 8), none, 0⟩,
    ⟨(some 10), .load1 (.tmp 9), none, 0⟩,
    ⟨(some 11), .move (.tmp 1), none, 0⟩,
    ⟨(some 12), .iaddr 1 (.tmp 10) (.tmp 11), none, 0⟩,
    ⟨(some 13), .load1 (.tmp 12), none, 0⟩,
    ⟨(some 14), .move (.const (.int .i64 0)), none, 0⟩] false) (.block 0 (.loop c38_1))) (.seq (.ops [⟨(some 30), .move (.tmp 5), none, 0⟩,
    ⟨(some 4), .move (.tmp 30), none, 0⟩] false) (.ret))))
set_option maxRecDepth 100000 in
theorem c38_ok : FunOK Try.prog 38 31 [.tmp 4] c38 := ⟨⟨Try.f38, Try.func38, rfl, by kernel_rfl, rfl, by kernel_rfl⟩⟩
theorem allL_take {N : List (List EdgeD)} {t k : Nat} (h : k < manyL N t) : (allL N t).take (k + 1) = (allL N t).take k ++ [((atL N t + k : Nat) : Int)] := by
  have hl := allL_len N t
  rw [List.take_add_one, List.getElem?_eq_getElem (by omega)]
  simp [allL]
set_option maxRecDepth 100000 in
theorem runs_all (L : List StepD) (M : List (List Int)) (N : List (List EdgeD)) (s : Nat) (hS : SpN M N s) (dS : D) (hd : Pure dS) (x y z : Nat) (X : List (List Int)) (Y : List Int) (Z : List (List Int)) (t : Nat) (ht : t < N.length) : ACall Try.prog 38 [.loc 0 0, .sc (.int .i64 t)] (mheap L M N dS x y z X Y Z) (dints (allL N t)) (mheap L M N dS x y z X Y Z) := by
  have hf := hS.few
  have hl := hS.len
  have ha := at_small hS (m := t) (by omega)
  have hm := many_small hS t
  have hal := allL_len N t
  refine acall_introD c38_ok (by simp) (by simp [mheap]) ?_ (by simp [Under])
  unfold mheap mbox
  (apply rd_sound; focus (repeat' constructor))
  ((conv=>whnf);repeat(refine And.intro rfl ?_;(conv=>whnf)))
  refine ⟨by omega, _, intsD_at (l := mansL N N.length) (k := t) (by omega) (by simpa [mansL] using ht), ?_⟩
  ((conv=>whnf);repeat(refine And.intro rfl ?_;(conv=>whnf)))
  rw [show (mansL N N.length).getD t 0 = (manyL N t : Int) from gl_getD ht]
  refine pwp_ghostB (leB_nil 5 1 (by simp) rfl) ?_
  refine pwp_for [0, 1, 13] (fun k : Nat => [(5, .own 4 k 0 k), (14, .sc (.int .i64 k))]) (fun k => [(4, .vec true k 1 (i64s ((allL N t).take k)))]) (fun k => k ≤ manyL N t) (fun k => manyL N t - k) 0 ?_
  ((conv=>whnf);repeat(refine And.intro rfl ?_;(conv=>whnf)))
  refine ⟨by omega, by (repeat' (first | exact trivial | refine And.intro rfl ?_)), rfl, ?_⟩
  rintro k hk
  ((conv=>whnf);repeat(refine And.intro rfl ?_;(conv=>whnf)))
  (apply rd_sound; focus (repeat' constructor))
  ((conv=>whnf);repeat(refine And.intro rfl ?_;(conv=>whnf)))
  (refine ifK_split (fun h1 => ?_) (fun h1 => ?_) <;> (rw [h1]; ((conv=>whnf);repeat(refine And.intro rfl ?_;(conv=>whnf)))))
  · have hk' : k < manyL N t := by ((try simp only [oo, reduceCtorEq] at *) <;> omega)
    refine ⟨by omega, _, intsD_at (l := atsL N N.length) (k := t) (by omega) (by simpa [atsL] using ht), ?_⟩
    ((conv=>whnf);repeat(refine And.intro rfl ?_;(conv=>whnf)))
    rw [show (atsL N N.length).getD t 0 = (atL N t : Int) from gl_getD ht]
    (refine .inl ⟨by (unfold InR; rw [IntKind.wrap_i64]; omega), ?_⟩; ((conv=>whnf);repeat(refine And.intro rfl ?_;(conv=>whnf))))
    refine ⟨(by unfold sliceAppend; simp only [ll]; omega), ?_⟩
    ((conv=>whnf);repeat(refine And.intro rfl ?_;(conv=>whnf)))
    (refine .inl ⟨by (unfold InR; rw [IntKind.wrap_i64]; omega), ?_⟩; ((conv=>whnf);repeat(refine And.intro rfl ?_;(conv=>whnf))))
    refine ⟨k + 1, by omega, by dsimp only; omega, ?_⟩
    dsimp only
    rw [allL_take hk']
    have e : (atL N t : Int) + (k : Int) = ((atL N t + k : Nat) : Int) := by omega
    rw [e]
    have hlt : ((allL N t).take k).length = k := by rw [List.length_take]; omega
    (refine leB_close 5 (by simp) rfl ?_ ?_ <;> (repeat' (first | exact trivial | exact rfl | exact DeepM.refl _ | exact DeepML.refl _ | exact DeepMLL.refl _ | refine And.intro ?_ ?_ | (simp [Under, UnderL, UnderLL, -List.map_take, -List.map_drop]; done))))
    · exact under_pure _ hd
    · exact deepMLL_eq (i64s_snoc hlt.symm)
  · have hk' : k = manyL N t := by have : ¬ k < manyL N t := by ((try simp only [oo, reduceCtorEq] at *) <;> omega)
                                   omega
    subst hk'
    rw [List.take_of_length_le (by omega)]
    exact ⟨.own _ _ _ _ _ _ _ _ rfl rfl (deepMLL_eq (drop_take_all (by simp [i64s]; omega))), close_mheap hd⟩
theorem getE {l : List EdgeD} {k : Nat} (h : k < l.length) : l[k]? = some (l.getD k (0, 0)) := by
  rw [List.getD_eq_getElem?_getD, List.getElem?_eq_getElem h]; rfl
theorem st_at {N : List (List EdgeD)} {m k : Nat} (h0 : (N.getD m []).length ≠ 0) (hk : k < manyL N m) : (stOf N m).getD k (0, 0) = (((N.getD m []).getD k (0, 0)).1, (m : Int)) ∧ (gsOf N m).getD k 0 = ((N.getD m []).getD k (0, 0)).2 := by
  rw [many_eq, if_neg h0] at hk
  unfold stOf gsOf
  rw [if_neg h0, if_neg h0]
  constructor
  · rw [List.getD_eq_getElem?_getD, List.getElem?_map, getE hk]
    rfl
  · rw [List.getD_eq_getElem?_getD, List.getElem?_map, getE hk]
    rfl
theorem st_none {N : List (List EdgeD)} {m : Nat} (h0 : (N.getD m []).length = 0) : (stOf N m).getD 0 (0, 0) = (-1, (m : Int)) ∧ (gsOf N m).getD 0 0 = (m : Int) := by
  unfold stOf gsOf
  rw [if_pos h0, if_pos h0]
  exact ⟨rfl, rfl⟩
def c36 : PC := .seq (.ops [⟨(some 4), .move (.const (.slice none 0 0)), none, 0⟩] false) (.seq (.ops [⟨(some 6), .move (.tmp 0), none, 0⟩,
    ⟨(some 7), .nilchk (.tmp 6), none, 0⟩,
    ⟨(some 8), .faddr 3 (.tmp 7), none, 0⟩,
    ⟨(some 9), .load1 (.tmp 8), none, 0⟩,
    ⟨(some 10), .move (.tmp 1), none, 0⟩,
    ⟨(some 11), .iaddr 2 (.tmp 9) (.tmp 10), none, 0⟩,
    ⟨(some 12), .loadA 2 (.tmp 11), none, 0⟩,
    ⟨(some 5), .alloc [(.int .i64 0), (.int .i64 0)], none, 0⟩,
    ⟨none, .store 2 (.tmp 5) (.tmp 12), none, 0⟩] false) (.seq (.seq (.ops [⟨(some 13), .faddr 0 (.tmp 5), none, 0⟩,
    ⟨(some 14), .load1 (.tmp 13), none, 0⟩,
    ⟨(some 15), .bin .lss (.tmp 14) (.const (.int .i64 0)), none, 0⟩] false) (.cond (.tmp 15) (.seq (.ops [⟨(some 16), .move (.tmp 1), none, 0⟩,
    ⟨(some 17), .bslice 1 1 [(.tmp 16)], none, 0⟩,
    ⟨(some 4), .move (.tmp 17), none, 0⟩] false) (.ret)) (.skip))) (.seq (.ops [⟨(some 18), .move (.tmp 0), none, 0⟩,
    ⟨(some 19), .move (.tmp 0), none, 0⟩,
    ⟨(some 20), .nilchk (.tmp 19), none, 2⟩,
    ⟨(some 21), .faddr 1 (.tmp 20), none, 6⟩,
    ⟨(some 22), .faddr 1 (.tmp 21), none, 14⟩,
    ⟨(some 23), .load1 (.tmp 22), none, 30⟩,
    ⟨(some 24), .faddr 1 (.tmp 5), none, 0⟩,
    ⟨(some 25), .load1 (.tmp 24), none, 64⟩,
    ⟨(some 26), .iaddr 1 (.tmp 23) (.tmp 25), none, 254⟩,
    ⟨(some 27), .load1 (.tmp 26), none, 510⟩,
    ⟨(some 28), .move (.tmp 1), none, 0⟩,
    ⟨(some 29), .move (.tmp 0), none, 0⟩,
    ⟨(some 30), .nilchk (.tmp 29), none, 2048⟩,
    ⟨(some 31), .faddr 4 (.tmp 30), none, 6144⟩,
    ⟨(some 32), .load1 (.tmp 31), none, 14336⟩,
    ⟨(some 33), .faddr 1 (.tmp 5), none, 0⟩,
    ⟨(some 34), .load1 (.tmp 33), none, 32768⟩,
    ⟨(some 35), .iaddr 1 (.tmp 32) (.tmp 34), none, 129024⟩,
    ⟨(some 36), .load1 (.tmp 35), none, 260096⟩,
    ⟨(some 37), .bin .sub (.tmp 28) (.tmp 36), none, 523264⟩,
    ⟨(some 38), .iaddr 2 (.tmp 27) (.tmp 37), none, 1048574⟩,
    ⟨(some 39), .faddr 1 (.tmp 38), none, 2097150⟩,
    ⟨(some 40), .load1 (.tmp 39), none, 4194302⟩,
    ⟨(some 41), .call 38 [(.tmp 18), (.tmp 40)], none, 8388607⟩,
    ⟨(some 4), .move (.tmp 41), none, 16777215⟩] true) (.ret))))
set_option maxRecDepth 100000 in
theorem c36_ok : FunOK Try.prog 36 42 [.tmp 4] c36 := ⟨⟨Try.f36, Try.func36, rfl, by kernel_rfl, rfl, by kernel_rfl⟩⟩
set_option maxRecDepth 100000 in
theorem runs_next (L : List StepD) (M : List (List Int)) (N : List (List EdgeD)) (s : Nat) (hS : SpN M N s) (dS : D) (hd : Pure dS) (x y z : Nat) (X : List (List Int)) (Y : List Int) (Z : List (List Int)) (m k : Nat) (hm : m < N.length) (hk : k < manyL N m) : ACall Try.prog 36 [.loc 0 0, .sc (.int .i64 ((atL N m + k : Nat) : Int))] (mheap L M N dS x y z X Y Z) (dints (allL N ((gsOf N m).getD k 0).toNat)) (mheap L M N dS x y z X Y Z) := by
  have hf := hS.few
  have hl := hS.len
  have ha := at_small hS (m := m + 1) (by omega)
  have ha' := at_mono (N := N) (show m + 1 ≤ N.length by omega)
  have hsu := at_succ N m
  have hol := ofTo_len N N.length
  have hat := ofTo_at hk N.length hm
  have hall := fun t (ht : t < N.length) => runs_all L M N s hS dS hd x y z X Y Z t ht
  refine acall_introD c36_ok (by simp) (by simp [mheap]) ?_ (by simp [Under])
  by_cases h0 : (N.getD m []).length = 0
  · have hk0 : k = 0 := by rw [many_eq, if_pos h0] at hk; omega
    subst hk0
    obtain ⟨e1, e2⟩ := st_none h0
    rw [e2, Int.toNat_natCast, all_one h0]
    rw [e1] at hat
    unfold mheap mbox
    (apply rd_sound; focus (repeat' constructor))
    ((conv=>whnf);repeat(refine And.intro rfl ?_;(conv=>whnf)))
    refine ⟨by omega, _, prows_at (l := ofTo N N.length) (k := atL N m + 0) (by omega) (by omega), ?_⟩
    rw [hat]
    ((conv=>whnf);repeat(refine And.intro rfl ?_;(conv=>whnf)))
    exact ⟨.own _ _ _ _ _ _ _ _ rfl rfl (.refl _), close_mheap hd⟩
  · obtain ⟨e1, e2⟩ := st_at h0 hk
    rw [e1] at hat
    have hk' : k < (N.getD m []).length := by rw [many_eq, if_neg h0] at hk; exact hk
    have he := hS.edgeAt hk'
    have hrd := erowD_at (L := N) (z := (m : Int).toNat) (k := m) (by omega) hm
    have hpr := prows_at (l := N.getD m []) (z := k) (k := k) rfl hk'
    rw [e2]
    generalize (N.getD m []).getD k (0, 0) = e at *
    have hA := hall e.2.toNat (by omega)
    rw [show ((e.2.toNat : Nat) : Int) = e.2 by omega] at hA
    unfold mheap mbox
    (apply rd_sound; focus (repeat' constructor))
    ((conv=>whnf);repeat(refine And.intro rfl ?_;(conv=>whnf)))
    refine ⟨by omega, _, prows_at (l := ofTo N N.length) (k := atL N m + k) (by omega) (by omega), ?_⟩
    rw [hat]
    ((conv=>whnf);repeat(refine And.intro rfl ?_;(conv=>whnf)))
    (refine ifK_split (fun h1 => ?_) (fun h1 => ?_) <;> (rw [h1]; ((conv=>whnf);repeat(refine And.intro rfl ?_;(conv=>whnf)))))
    · exfalso; ((try simp only [oo, reduceCtorEq] at *) <;> omega)
    refine ⟨by omega, _, hrd, ?_⟩
    ((conv=>whnf);repeat(refine And.intro rfl ?_;(conv=>whnf)))
    refine ⟨by omega, _, intsD_at (l := atsL N N.length) (k := m) (by omega) (by simpa [atsL] using hm), ?_⟩
    ((conv=>whnf);repeat(refine And.intro rfl ?_;(conv=>whnf)))
    rw [show (atsL N N.length).getD m 0 = (atL N m : Int) from gl_getD hm]
    (refine .inl ⟨by (unfold InR; rw [IntKind.wrap_i64]; omega), ?_⟩; ((conv=>whnf);repeat(refine And.intro rfl ?_;(conv=>whnf))))
    refine ⟨by omega, _, (show (prows (N.getD m []))[(((atL N m + k : Nat) : Int) - (atL N m : Int)).toNat]? = _ by rw [show (((atL N m + k : Nat) : Int) - (atL N m : Int)).toNat = k by omega]; exact hpr), ?_⟩
    ((conv=>whnf);repeat(refine And.intro rfl ?_;(conv=>whnf)))
    (refine .inr (.inr (.inr (.inr (.inr (.inr ⟨_, _, (aread_m hd hA (by simp [PureL, Pure]) (pure_dints _) 0 1 2 3 (by decide) rfl rfl rfl rfl), ?_⟩))))); ((conv=>whnf);repeat(refine And.intro rfl ?_;(conv=>whnf))))
    exact ⟨.refl _, close_mheap hd⟩
def lab1 (L : List StepD) (z : Int) : Int := if z < 0 then 9223372036854775808 else 2 ^ (L.getD z.toNat (0, 0, 0)).1.toNat
theorem shl_bit' {z : Int} {k : Nat} (hk : z = k) (h : k ≤ 63) : (1 : Int) * 2 ^ min z.toNat IntKind.u64.bits = 2 ^ k := by
  subst hk
  rw [Int.toNat_natCast, Int.one_mul, Nat.min_eq_left (by show k ≤ 64; omega)]
theorem inr_bit' {k : Nat} (h : k ≤ 63) : InR .u64 ((2 : Int) ^ k) := by
  have h1 := pow_pos' k
  have h2 := pow_le (k := k) (n := 63) h
  have h3 : (2 : Int) ^ 63 = 9223372036854775808 := by decide
  unfold InR IntKind.wrap
  simp only [IntKind.bits, IntKind.signed]
  have h4 : (2 : Int) ^ 64 = 18446744073709551616 := by decide
  simp
  omega
def c37 : PC := .seq (.ops [⟨(some 4), .move (.const (.int .u64 0)), none, 0⟩] false) (.seq (.seq (.ops [⟨(some 5), .move (.tmp 0), none, 0⟩,
    ⟨(some 6), .nilchk (.tmp 5), none, 0⟩,
    ⟨(some 7), .faddr 3 (.tmp 6), none, 0⟩,
    ⟨(some 8), .load1 (.tmp 7), none, 0⟩,
    ⟨(some 9), .move (.tmp 1), none, 0⟩,
    ⟨(some 10), .iaddr 2 (.tmp 8) (.tmp 9), none, 0⟩,
    ⟨(some 11), .faddr 0 (.tmp 10), none, 0⟩,
    ⟨(some 12), .load1 (.tmp 11), none, 0⟩,
    ⟨(some 13), .bin .lss (.tmp 12) (.const (.int .i64 0)), none, 0⟩] false) (.cond (.tmp 13) (.seq (.ops [⟨(some 4), .move (.const (.int .u64 9223372036854775808)), none, 0⟩] false) (.ret)) (.skip))) (.seq (.ops [⟨(some 14), .move (.tmp 0), none, 0⟩,
    ⟨(some 15), .nilchk (.tmp 14), none, 1⟩,
    ⟨(some 16), .faddr 0 (.tmp 15), none, 3⟩,
    ⟨(some 17), .load1 (.tmp 16), none, 7⟩,
    ⟨(some 18), .move (.tmp 0), none, 0⟩,
    ⟨(some 19), .nilchk (.tmp 18), none, 16⟩,
    ⟨(some 20), .faddr 3 (.tmp 19), none, 48⟩,
    ⟨(some 21), .load1 (.tmp 20), none, 112⟩,
    ⟨(some 22), .move (.tmp 1), none, 0⟩,
    ⟨(some 23), .iaddr 2 (.tmp 21) (.tmp 22), none, 496⟩,
    ⟨(some 24), .faddr 0 (.tmp 23), none, 1008⟩,
    ⟨(some 25), .load1 (.tmp 24), none, 2032⟩,
    ⟨(some 26), .iaddr 3 (.tmp 17) (.tmp 25), none, 4095⟩,
    ⟨(some 27), .faddr 0 (.tmp 26), none, 8191⟩,
    ⟨(some 28), .load1 (.tmp 27), none, 16383⟩,
    ⟨(some 29), .bin .shl (.const (.int .u64 1)) (.tmp 28), none, 32767⟩,
    ⟨(some 4), .move (.tmp 29), none, 65535⟩] true) (.ret)))
set_option maxRecDepth 100000 in
theorem c37_ok : FunOK Try.prog 37 30 [.tmp 4] c37 := ⟨⟨Try.f37, Try.func37, rfl, by kernel_rfl, rfl, by kernel_rfl⟩⟩
set_option maxRecDepth 100000 in
theorem runs_label (L : List StepD) (M : List (List Int)) (N : List (List EdgeD)) (s : Nat) (hS : SpN M N s) (dS : D) (hd : Pure dS) (x y z : Nat) (X : List (List Int)) (Y : List Int) (Z : List (List Int)) (hL : ∀ j, j < L.length → 0 ≤ (L.getD j (0, 0, 0)).1 ∧ (L.getD j (0, 0, 0)).1 ≤ 63) (hs : s = L.length) (m k : Nat) (hm : m < N.length) (hk : k < manyL N m) : ACall Try.prog 37 [.loc 0 0, .sc (.int .i64 ((atL N m + k : Nat) : Int))] (mheap L M N dS x y z X Y Z) (.sc (.int .u64 (lab1 L ((stOf N m).getD k (0, 0)).1))) (mheap L M N dS x y z X Y Z) := by
  have hf := hS.few
  have hl := hS.len
  have ha := at_small hS (m := m + 1) (by omega)
  have ha' := at_mono (N := N) (show m + 1 ≤ N.length by omega)
  have hsu := at_succ N m
  have hol := ofTo_len N N.length
  have hat := ofTo_at hk N.length hm
  refine acall_introD c37_ok (by simp) (by simp [mheap]) ?_ (by simp [Under])
  by_cases h0 : (N.getD m []).length = 0
  · have hk0 : k = 0 := by rw [many_eq, if_pos h0] at hk; omega
    subst hk0
    obtain ⟨e1, e2⟩ := st_none h0
    rw [e1]
    rw [e1] at hat
    unfold mheap mbox
    (apply rd_sound; focus (repeat' constructor))
    ((conv=>whnf);repeat(refine And.intro rfl ?_;(conv=>whnf)))
    refine ⟨by omega, _, prows_at (l := ofTo N N.length) (k := atL N m + 0) (by omega) (by omega), ?_⟩
    rw [hat]
    ((conv=>whnf);repeat(refine And.intro rfl ?_;(conv=>whnf)))
    exact ⟨.refl _, close_mheap (R := []) hd⟩
  · obtain ⟨e1, e2⟩ := st_at h0 hk
    rw [e1] at hat ⊢
    have hk' : k < (N.getD m []).length := by rw [many_eq, if_neg h0] at hk; exact hk
    have he := hS.edgeAt hk'
    generalize (N.getD m []).getD k (0, 0) = e at *
    have hnode := hL e.1.toNat (by omega)
    have e3 : lab1 L e.1 = 2 ^ (L.getD e.1.toNat (0, 0, 0)).1.toNat := by unfold lab1; rw [if_neg (by omega)]
    unfold mheap mbox
    (apply rd_sound; focus (repeat' constructor))
    ((conv=>whnf);repeat(refine And.intro rfl ?_;(conv=>whnf)))
    refine ⟨by omega, _, prows_at (l := ofTo N N.length) (k := atL N m + k) (by omega) (by omega), ?_⟩
    rw [hat]
    ((conv=>whnf);repeat(refine And.intro rfl ?_;(conv=>whnf)))
    (refine ifK_split (fun h1 => ?_) (fun h1 => ?_) <;> (rw [h1]; ((conv=>whnf);repeat(refine And.intro rfl ?_;(conv=>whnf)))))
    · exfalso; ((try simp only [oo, reduceCtorEq] at *) <;> omega)
    refine ⟨by omega, _, prows_at (l := ofTo N N.length) (k := atL N m + k) (by omega) (by omega), ?_⟩
    rw [hat]
    ((conv=>whnf);repeat(refine And.intro rfl ?_;(conv=>whnf)))
    refine ⟨by omega, _, step_atD (k := e.1.toNat) (by omega) (by omega), ?_⟩
    ((conv=>whnf);repeat(refine And.intro rfl ?_;(conv=>whnf)))
    generalize L.getD e.1.toNat (0, 0, 0) = st at *
    refine ⟨by omega, ?_⟩
    rw [shl_bit' (k := st.1.toNat) (by omega) (by omega), ← e3]
    refine .inl ⟨by rw [e3]; exact inr_bit' (by omega), ?_⟩
    ((conv=>whnf);repeat(refine And.intro rfl ?_;(conv=>whnf)))
    exact ⟨.refl _, close_mheap (R := []) hd⟩
def c39_2 : PC := .seq (.ops [⟨(some 32), .bin .lss (.tmp 31) (.tmp 30), none, 0⟩] false) (.seq (.cond (.tmp 32) (.skip) (.exit 2)) (.seq (.block 3 (.seq (.ops [⟨(some 33), .iaddr 2 (.tmp 29) (.tmp 31), none, 0⟩,
    ⟨(some 34), .loadA 2 (.tmp 33), none, 0⟩,
    ⟨(some 10), .alloc [(.int .i64 0), (.int .i64 0)], none, 0⟩,
    ⟨none, .store 2 (.tmp 10) (.tmp 34), none, 0⟩] false) (.ops [⟨(some 35), .move (.tmp 8), none, 0⟩,
    ⟨(some 36), .move (.tmp 35), none, 0⟩,
    ⟨(some 37), .faddr 0 (.tmp 10), (some (36, false)), 0⟩,
    ⟨(some 38), .load1 (.tmp 37), (some (36, false)), 0⟩,
    ⟨(some 39), .move (.tmp 1), (some (36, false)), 0⟩,
    ⟨(some 40), .bin .eql (.tmp 38) (.tmp 39), (some (36, false)), 0⟩,
    ⟨(some 41), .pick (.tmp 36) (.const (.bool true)) (.tmp 40), none, 0⟩,
    ⟨(some 8), .move (.tmp 41), none, 0⟩] false))) (.ops [⟨(some 42), .bin .add (.tmp 31) (.const (.int .i64 1)), none, 0⟩,
    ⟨(some 31), .move (.tmp 42), none, 0⟩] false)))
def c39_1 : PC := .seq (.ops [⟨(some 17), .bin .lss (.tmp 16) (.tmp 15), none, 0⟩] false) (.seq (.cond (.tmp 17) (.skip) (.exit 0)) (.seq (.block 1 (.seq (.ops [⟨(some 18), .move (.tmp 16), none, 0⟩,
    ⟨(some 19), .iaddr 2 (.tmp 14) (.tmp 16), none, 0⟩,
    ⟨(some 20), .loadA 2 (.tmp 19), none, 0⟩,
    ⟨(some 7), .alloc [(.int .i64 0), (.int .i64 0)], none, 0⟩,
    ⟨(some 6), .move (.tmp 18), none, 0⟩,
    ⟨none, .store 2 (.tmp 7) (.tmp 20), none, 0⟩] false) (.seq (.ops [⟨(some 8), .move (.const (.bool false)), none, 0⟩] false) (.seq (.seq (.ops [⟨(some 21), .move (.tmp 0), none, 0⟩,
    ⟨(some 22), .nilchk (.tmp 21), none, 1⟩,
    ⟨(some 23), .faddr 1 (.tmp 22), none, 3⟩,
    ⟨(some 24), .faddr 1 (.tmp 23), none, 7⟩,
    ⟨(some 25), .load1 (.tmp 24), none, 15⟩,
    ⟨(some 26), .faddr 1 (.tmp 7), none, 0⟩,
    ⟨(some 27), .load1 (.tmp 26), none, 32⟩,
    ⟨(some 28), .iaddr 1 (.tmp 25) (.tmp 27), none, 127⟩,
    ⟨(some 29), .load1 (.tmp 28), none, 255⟩,
    ⟨(some 30), .len (.tmp 29), none, 511⟩,
    ⟨(some 31), .move (.const (.int .i64 0)), none, 0⟩] true) (.block 2 (.loop c39_2))) (.seq (.ops [⟨(some 43), .move (.tmp 8), none, 0⟩,
    ⟨(some 44), .un .not (.tmp 43), none, 0⟩,
    ⟨(some 45), .move (.tmp 44), none, 0⟩,
    ⟨(some 46), .faddr 0 (.tmp 7), (some (45, false)), 0⟩,
    ⟨(some 47), .load1 (.tmp 46), (some (45, false)), 0⟩,
    ⟨(some 48), .move (.tmp 1), (some (45, false)), 0⟩,
    ⟨(some 49), .bin .eql (.tmp 47) (.tmp 48), (some (45, false)), 0⟩,
    ⟨(some 50), .pick (.tmp 45) (.const (.bool true)) (.tmp 49), none, 0⟩] false) (.cond (.tmp 50) (.ops [⟨(some 51), .move (.tmp 5), none, 0⟩,
    ⟨(some 52), .move (.tmp 6), none, 0⟩,
    ⟨(some 53), .bslice 1 1 [(.tmp 52)], none, 0⟩,
    ⟨(some 54), .append 1 8 (.tmp 51) (.tmp 53), none, 0⟩,
    ⟨(some 5), .move (.tmp 54), none, 0⟩] false) (.skip))))))) (.ops [⟨(some 55), .bin .add (.tmp 16) (.const (.int .i64 1)), none, 0⟩,
    ⟨(some 16), .move (.tmp 55), none, 0⟩] false)))
def c39 : PC := .seq (.ops [⟨(some 4), .move (.const (.slice none 0 0)), none, 0⟩] false) (.seq (.ops [⟨(some 5), .move (.const (.slice none 0 0)), none, 0⟩] false) (.seq (.seq (.ops [⟨(some 11), .move (.tmp 0), none, 0⟩,
    ⟨(some 12), .nilchk (.tmp 11), none, 0⟩,
    ⟨(some 13), .faddr 3 (.tmp 12), none, 0⟩,
    ⟨(some 14), .load1 (.tmp 13), none, 0⟩,
    ⟨(some 15), .len (.tmp 14), none, 0⟩,
    ⟨(some 16), .move (.const (.int .i64 0)), none, 0⟩] false) (.block 0 (.loop c39_1))) (.seq (.ops [⟨(some 56), .move (.tmp 5), none, 0⟩,
    ⟨(some 4), .move (.tmp 56), none, 0⟩] false) (.ret))))
set_option maxRecDepth 100000 in
theorem c39_ok : FunOK Try.prog 39 57 [.tmp 4] c39 := ⟨⟨Try.f39, Try.func39, rfl, by kernel_rfl, rfl, by kernel_rfl⟩⟩
set_option maxRecDepth 100000 in
theorem runs_fair (L : List StepD) (M : List (List Int)) (N : List (List EdgeD)) (s : Nat) (hS : SpN M N s) (dS : D) (hd : Pure dS) (x y z : Nat) (X : List (List Int)) (Y : List Int) (Z : List (List Int)) (st : Int) : ACall Try.prog 39 [.loc 0 0, .sc (.int .i64 st)] (mheap L M N dS x y z X Y Z) (dints (fairTo N (ofTo N N.length) st (atL N N.length))) (mheap L M N dS x y z X Y Z) := by
  have hf := hS.few
  have hl := hS.len
  have ha := at_small hS (m := N.length) (by omega)
  have hol := ofTo_len N N.length
  refine acall_introD c39_ok (by simp) (by simp [mheap]) ?_ (by simp [Under])
  unfold mheap mbox
  (apply rd_sound; focus (repeat' constructor))
  ((conv=>whnf);repeat(refine And.intro rfl ?_;(conv=>whnf)))
  rw [prows_len, hol]
  refine pwp_ghostB (leB_nil 5 1 (by simp) rfl) ?_
  refine pwp_for [0, 1, 14, 15] (fun ((k, c, l) : Nat × Nat × List Int) => [(5, .own 4 c 0 c), (16, .sc (.int .i64 k))]) (fun (k, c, l) => [(4, .vec true c 1 (i64s l))]) (fun (k, c, l) => k ≤ atL N N.length ∧ c = l.length ∧ c ≤ k ∧ l = fairTo N (ofTo N N.length) st k) (fun (k, c, l) => atL N N.length - k) (0, 0, []) ?_
  ((conv=>whnf);repeat(refine And.intro rfl ?_;(conv=>whnf)))
  refine ⟨⟨by omega, rfl, by omega, rfl⟩, by (repeat' (first | exact trivial | refine And.intro rfl ?_)), rfl, ?_⟩
  rintro ⟨k, c, l⟩ ⟨hk, hc, hck, hl'⟩
  ((conv=>whnf);repeat(refine And.intro rfl ?_;(conv=>whnf)))
  (apply rd_sound; focus (repeat' constructor))
  ((conv=>whnf);repeat(refine And.intro rfl ?_;(conv=>whnf)))
  (refine ifK_split (fun h1 => ?_) (fun h1 => ?_) <;> (rw [h1]; ((conv=>whnf);repeat(refine And.intro rfl ?_;(conv=>whnf)))))
  · have hk' : k < atL N N.length := by ((try simp only [oo, reduceCtorEq] at *) <;> omega)
    obtain ⟨m, j, q1, q2, q3⟩ := of_split hk'
    have hat := ofTo_at q2 N.length q1
    rw [← q3] at hat
    have hmk := st_mark q2
    have eT : fairTo N (ofTo N N.length) st (k + 1) = if canB N ((ofTo N N.length).getD k (0, 0)).2.toNat st = false ∨ ((ofTo N N.length).getD k (0, 0)).1 = st then fairTo N (ofTo N N.length) st k ++ [(k : Int)] else fairTo N (ofTo N N.length) st k := rfl
    refine ⟨by omega, _, prows_at (l := ofTo N N.length) (k := k) (by omega) (by omega), ?_⟩
    rw [hat] at eT ⊢
    generalize (stOf N m).getD j (0, 0) = e at eT hmk
    rw [hmk, Int.toNat_natCast, ← hl'] at eT
    obtain ⟨e1, e2⟩ := e
    dsimp only at hmk eT
    subst hmk
    ((conv=>whnf);repeat(refine And.intro rfl ?_;(conv=>whnf)))
    have lx := hS.rowAt m
    refine ⟨by omega, _, erowD_at (L := N) (k := m) (by omega) q1, ?_⟩
    ((conv=>whnf);repeat(refine And.intro rfl ?_;(conv=>whnf)))
    rw [prows_len]
    refine pwp_for [0, 1, 5, 6, 7, 14, 15, 16, 29, 30] (fun ((j, b) : Nat × Bool) => [(8, .sc (.bool b)), (31, .sc (.int .i64 j))]) (fun _ => []) (fun (j, b) => j ≤ (N.getD m []).length ∧ b = ((N.getD m []).take j).any fun y => y.1 == st) (fun (j, b) => (N.getD m []).length - j) (0, false) ?_
    ((conv=>whnf);repeat(refine And.intro rfl ?_;(conv=>whnf)))
    refine ⟨⟨by omega, by simp⟩, by (repeat' (first | exact trivial | refine And.intro rfl ?_)), rfl, ?_⟩
    rintro ⟨j, b⟩ ⟨hj, hb⟩
    ((conv=>whnf);repeat(refine And.intro rfl ?_;(conv=>whnf)))
    (apply rd_sound; focus (repeat' constructor))
    ((conv=>whnf);repeat(refine And.intro rfl ?_;(conv=>whnf)))
    (refine ifK_split (fun h2 => ?_) (fun h2 => ?_) <;> (rw [h2]; ((conv=>whnf);repeat(refine And.intro rfl ?_;(conv=>whnf)))))
    · have hj' : j < (N.getD m []).length := by ((try simp only [oo, reduceCtorEq] at *) <;> omega)
      refine ⟨by omega, _, prows_at (k := j) (by omega) hj', ?_⟩
      ((conv=>whnf);repeat(refine And.intro rfl ?_;(conv=>whnf)))
      have hnx : ((N.getD m []).take (j + 1)).any (fun y => y.1 == st) = (b || (((N.getD m []).getD j (0, 0)).1 == st)) := by
        rw [List.take_add_one, getE hj', List.any_append, ← hb]
        simp
      generalize (N.getD m []).getD j (0, 0) = e at hnx
      cases b
      · ((conv=>whnf);repeat(refine And.intro rfl ?_;(conv=>whnf)))
        (refine .inl ⟨by (unfold InR; rw [IntKind.wrap_i64]; omega), ?_⟩; ((conv=>whnf);repeat(refine And.intro rfl ?_;(conv=>whnf))))
        refine ⟨(j + 1, e.1 == st), ⟨by omega, by rw [hnx]; rfl⟩, by dsimp only; omega, ?_⟩
        (refine leB_close 6 (by simp) rfl ?_ ?_ <;> (repeat' (first | exact trivial | exact rfl | exact DeepM.refl _ | exact DeepML.refl _ | exact DeepMLL.refl _ | refine And.intro ?_ ?_ | (simp [Under, UnderL, UnderLL, -List.map_take, -List.map_drop]; done))))
        exact under_pure _ hd
      · ((conv=>whnf);repeat(refine And.intro rfl ?_;(conv=>whnf)))
        (refine .inl ⟨by (unfold InR; rw [IntKind.wrap_i64]; omega), ?_⟩; ((conv=>whnf);repeat(refine And.intro rfl ?_;(conv=>whnf))))
        refine ⟨(j + 1, true), ⟨by omega, by rw [hnx]; rfl⟩, by dsimp only; omega, ?_⟩
        (refine leB_close 6 (by simp) rfl ?_ ?_ <;> (repeat' (first | exact trivial | exact rfl | exact DeepM.refl _ | exact DeepML.refl _ | exact DeepMLL.refl _ | refine And.intro ?_ ?_ | (simp [Under, UnderL, UnderLL, -List.map_take, -List.map_drop]; done))))
        exact under_pure _ hd
    · have hj' : j = (N.getD m []).length := by have : ¬ j < (N.getD m []).length := by ((try simp only [oo, reduceCtorEq] at *) <;> omega)
                                                omega
      subst hj'
      rw [List.take_length] at hb
      have hb : b = canB N m st := hb
      rw [← hb] at eT
      cases b
      · ((conv=>whnf);repeat(refine And.intro rfl ?_;(conv=>whnf)))
        rw [if_pos (.inl rfl)] at eT
        refine ⟨(by unfold sliceAppend; simp only [ll]; omega), ?_⟩
        ((conv=>whnf);repeat(refine And.intro rfl ?_;(conv=>whnf)))
        (refine .inl ⟨by (unfold InR; rw [IntKind.wrap_i64]; omega), ?_⟩; ((conv=>whnf);repeat(refine And.intro rfl ?_;(conv=>whnf))))
        refine ⟨(k + 1, c + 1, l ++ [(k : Int)]), ⟨by omega, by simp [hc], by omega, eT.symm⟩, by dsimp only; omega, ?_⟩
        (refine leB_close 5 (by simp) rfl ?_ ?_ <;> (repeat' (first | exact trivial | exact rfl | exact DeepM.refl _ | exact DeepML.refl _ | exact DeepMLL.refl _ | refine And.intro ?_ ?_ | (simp [Under, UnderL, UnderLL, -List.map_take, -List.map_drop]; done))))
        · exact under_pure _ hd
        · exact deepMLL_eq (i64s_snoc hc)
      · ((conv=>whnf);repeat(refine And.intro rfl ?_;(conv=>whnf)))
        (refine ifK_split (fun h3 => ?_) (fun h3 => ?_) <;> (rw [h3]; ((conv=>whnf);repeat(refine And.intro rfl ?_;(conv=>whnf)))))
        · have h3 : e1 = st := by ((try simp only [oo, reduceCtorEq] at *) <;> omega)
          rw [if_pos (.inr h3)] at eT
          refine ⟨(by unfold sliceAppend; simp only [ll]; omega), ?_⟩
          ((conv=>whnf);repeat(refine And.intro rfl ?_;(conv=>whnf)))
          (refine .inl ⟨by (unfold InR; rw [IntKind.wrap_i64]; omega), ?_⟩; ((conv=>whnf);repeat(refine And.intro rfl ?_;(conv=>whnf))))
          refine ⟨(k + 1, c + 1, l ++ [(k : Int)]), ⟨by omega, by simp [hc], by omega, eT.symm⟩, by dsimp only; omega, ?_⟩
          (refine leB_close 5 (by simp) rfl ?_ ?_ <;> (repeat' (first | exact trivial | exact rfl | exact DeepM.refl _ | exact DeepML.refl _ | exact DeepMLL.refl _ | refine And.intro ?_ ?_ | (simp [Under, UnderL, UnderLL, -List.map_take, -List.map_drop]; done))))
          · exact under_pure _ hd
          · exact deepMLL_eq (i64s_snoc hc)
        · have h3 : ¬ e1 = st := by ((try simp only [oo, reduceCtorEq] at *) <;> omega)
          rw [if_neg (fun q => q.elim (fun q => by cases q) h3)] at eT
          (refine .inl ⟨by (unfold InR; rw [IntKind.wrap_i64]; omega), ?_⟩; ((conv=>whnf);repeat(refine And.intro rfl ?_;(conv=>whnf))))
          refine ⟨(k + 1, c, l), ⟨by omega, hc, by omega, eT.symm⟩, by dsimp only; omega, ?_⟩
          (refine leB_close 5 (by simp) rfl ?_ ?_ <;> (repeat' (first | exact trivial | exact rfl | exact DeepM.refl _ | exact DeepML.refl _ | exact DeepMLL.refl _ | refine And.intro ?_ ?_ | (simp [Under, UnderL, UnderLL, -List.map_take, -List.map_drop]; done))))
          exact under_pure _ hd
  · have hk' : k = atL N N.length := by have : ¬ k < atL N N.length := by ((try simp only [oo, reduceCtorEq] at *) <;> omega)
                                        omega
    subst hk'
    rw [← hl']
    exact ⟨.own _ _ _ _ _ _ _ _ rfl rfl (deepMLL_eq (drop_take_all (by simp [i64s]; omega))), close_mheap hd⟩
end Go.Proofs.Ytjnfahdolkgnoaa
