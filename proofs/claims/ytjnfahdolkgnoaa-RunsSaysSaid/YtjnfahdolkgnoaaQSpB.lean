/-
  Sp6 Sp7 joined. No statement is proved here.
-/
import Derived.Test.YtjnfahdolkgnoaaQSpA
import Derived.Test.YtjnfahdolkgnoaaQStA
namespace Go.Proofs.Ytjnfahdolkgnoaa
/-! ### XSp6 -/
section
open Go.RowKit
set_option linter.unusedSimpArgs false
set_option linter.unusedVariables false
theorem idxM_nodup {mk : List (List Int)} {m : List Int} (hn : mk.Nodup) {i : Nat} (hi : i < mk.length) (h : mk.getD i [] = m) : idxM mk m = i := by
  have hm : m ∈ mk := h ▸ ProcD.mem_getDL hi
  obtain ⟨h1, h2⟩ := idxM_spec hm
  have h3 : mk[idxM mk m] = mk[i] := by
    have q : mk.getD (idxM mk m) [] = mk.getD i [] := h2.trans h.symm
    rw [List.getD_eq_getElem?_getD, List.getD_eq_getElem?_getD, List.getElem?_eq_getElem hi, List.getElem?_eq_getElem h1] at q
    exact q
  rcases Nat.lt_trichotomy (idxM mk m) i with q | q | q
  · exact absurd h3 (List.pairwise_iff_getElem.1 hn _ _ h1 hi q)
  · exact q
  · exact absurd h3.symm (List.pairwise_iff_getElem.1 hn _ _ hi h1 q)
theorem notMem {mk : List (List Int)} {m : List Int} (h : ∀ j, j < mk.length → mk.getD j [] ≠ m) : ¬ m ∈ mk := fun hm => by
  obtain ⟨h1, h2⟩ := idxM_spec hm
  exact h _ h1 h2
theorem overB_true {m : List Int} {tok : Int} {f : Nat} (hf : f < m.length) (h : m.getD f 0 > tok) : overB m tok = true := by
  unfold overB
  rw [List.any_eq_true]
  exact ⟨_, mem_getD hf, by simpa using h⟩
theorem overB_false {m : List Int} {tok : Int} (h : ∀ f, f < m.length → ¬ m.getD f 0 > tok) : overB m tok = false := by
  unfold overB
  rw [List.any_eq_false]
  intro x hx
  obtain ⟨k, hk, rfl⟩ := getD_mem hx
  simpa using h k hk
/-- The ways kept beside the markings. -/
def WaysOK (og : List Org) (wy : List (List Int)) : Prop := wy.length = og.length ∧ ∀ i, i < og.length → wy.getD i [] = rtC og (og.getD i (0, 0))
theorem WaysOK.put {og : List Org} {wy : List (List Int)} (h : WaysOK og wy) (hb : Back og) {n k : Int} (h0 : 0 ≤ n) (h1 : n < (og.length : Int)) : WaysOK (og ++ [(n, k)]) (wy ++ [wy.getD n.toNat [] ++ [k]]) := by
  obtain ⟨hl, hw⟩ := h
  refine ⟨by simp [hl], fun i hi => ?_⟩
  rw [List.length_append, List.length_singleton] at hi
  by_cases e : i = og.length
  · subst e
    rw [List.getD_eq_getElem?_getD, List.getElem?_append_right (by omega), hl, Nat.sub_self, List.getD_eq_getElem?_getD (l := og ++ _), List.getElem?_append_right (Nat.le_refl _), Nat.sub_self]
    show wy.getD n.toNat [] ++ [k] = rtC (og ++ [(n, k)]) (n, k)
    rw [rtC_app hb (o := (n, k)) h1, rtC_step hb h0 h1, hw _ (by omega)]
  · have hb' := hb.at (i := i) (by omega)
    rw [List.getD_eq_getElem?_getD, List.getElem?_append_left (by omega), ← List.getD_eq_getElem?_getD, List.getD_eq_getElem?_getD (l := og ++ _), List.getElem?_append_left (by omega), ← List.getD_eq_getElem?_getD, hw i (by omega)]
    rw [rtC_app hb (by omega)]
theorem rtC_len (og : List Org) (o : Org) : (rtC og o).length ≤ (o.1 + 1).toNat := rt_len _ _ _
theorem deepLL_eq {H : List AObj} {a b : List (List D)} (h : a = b) : DeepLL H a b := h ▸ deepLL_refl a
theorem way_cells (A : List (List D)) (y : List D) : List.drop 0 (List.take (A.length - 0 + (List.drop 0 (List.take 1 [y])).length) (List.drop 0 (List.take A.length A) ++ List.drop 0 (List.take 1 [y]))) = A ++ [y] := by
  rw [drop_take_all (l := A) (Nat.le_refl _), List.drop_zero, List.take_of_length_le (by simp)]
  rfl
def c7_3 : PC := .seq (.seq (.ops [⟨(some 100), .move (.tmp 19), none, 0⟩,
    ⟨(some 101), .move (.tmp 17), none, 0⟩,
    ⟨(some 102), .len (.tmp 101), none, 0⟩,
    ⟨(some 103), .bin .lss (.tmp 100) (.tmp 102), none, 0⟩] false) (.cond (.tmp 103) (.skip) (.exit 4))) (.seq (.block 5 (.seq (.ops [⟨(some 106), .move (.tmp 17), none, 0⟩,
    ⟨(some 107), .move (.tmp 19), none, 0⟩,
    ⟨(some 108), .iaddr 1 (.tmp 106) (.tmp 107), none, 0⟩,
    ⟨(some 109), .load1 (.tmp 108), none, 0⟩,
    ⟨(some 110), .move (.tmp 1), none, 0⟩,
    ⟨(some 111), .bin .gtr (.tmp 109) (.tmp 110), none, 0⟩] false) (.cond (.tmp 111) (.seq (.ops [⟨(some 112), .build [(.slice none 0 0), (.slice none 0 0)] [], none, 0⟩,
    ⟨(some 113), .move (.tmp 16), none, 0⟩,
    ⟨none, .store 2 (.tmp 6) (.tmp 112), none, 0⟩,
    ⟨(some 7), .move (.tmp 113), none, 0⟩,
    ⟨(some 8), .move (.const (.int .i64 7)), none, 0⟩] false) (.ret)) (.skip)))) (.ops [⟨(some 104), .move (.tmp 19), none, 0⟩,
    ⟨(some 105), .bin .add (.tmp 104) (.const (.int .i64 1)), none, 0⟩,
    ⟨(some 19), .move (.tmp 105), none, 0⟩] false))
def c7_4 : PC := .seq (.seq (.ops [⟨(some 114), .move (.tmp 20), none, 0⟩,
    ⟨(some 115), .move (.tmp 10), none, 0⟩,
    ⟨(some 116), .len (.tmp 115), none, 0⟩,
    ⟨(some 117), .bin .lss (.tmp 114) (.tmp 116), none, 0⟩,
    ⟨(some 118), .move (.tmp 117), none, 0⟩,
    ⟨(some 119), .move (.tmp 10), (some (118, true)), 0⟩,
    ⟨(some 120), .move (.tmp 20), (some (118, true)), 0⟩,
    ⟨(some 121), .iaddr 1 (.tmp 119) (.tmp 120), (some (118, true)), 0⟩,
    ⟨(some 122), .load1 (.tmp 121), (some (118, true)), 0⟩,
    ⟨(some 123), .move (.tmp 17), (some (118, true)), 0⟩,
    ⟨(some 124), .call 29 [(.tmp 122), (.tmp 123)], (some (118, true)), 0⟩,
    ⟨(some 125), .un .not (.tmp 124), (some (118, true)), 0⟩,
    ⟨(some 126), .pick (.tmp 118) (.tmp 125) (.const (.bool false)), none, 0⟩] false) (.cond (.tmp 126) (.skip) (.exit 6))) (.block 7 (.ops [⟨(some 127), .move (.tmp 20), none, 0⟩,
    ⟨(some 128), .bin .add (.tmp 127) (.const (.int .i64 1)), none, 0⟩,
    ⟨(some 20), .move (.tmp 128), none, 0⟩] false))
def c7_2 : PC := .seq (.seq (.ops [⟨(some 62), .move (.tmp 15), none, 0⟩,
    ⟨(some 63), .move (.tmp 13), none, 0⟩,
    ⟨(some 64), .len (.tmp 63), none, 0⟩,
    ⟨(some 65), .bin .lss (.tmp 62) (.tmp 64), none, 0⟩] false) (.cond (.tmp 65) (.skip) (.exit 2))) (.seq (.block 3 (.seq (.ops [⟨(some 68), .move (.tmp 11), none, 0⟩,
    ⟨(some 69), .move (.tmp 12), none, 0⟩,
    ⟨(some 70), .iaddr 1 (.tmp 68) (.tmp 69), none, 3⟩,
    ⟨(some 71), .load1 (.tmp 70), none, 7⟩,
    ⟨(some 72), .append 1 8 (.const (.slice none 0 0)) (.tmp 71), none, 15⟩,
    ⟨(some 73), .move (.tmp 13), none, 0⟩,
    ⟨(some 74), .move (.tmp 15), none, 0⟩,
    ⟨(some 75), .iaddr 1 (.tmp 73) (.tmp 74), none, 96⟩,
    ⟨(some 76), .load1 (.tmp 75), none, 224⟩,
    ⟨(some 77), .bslice 1 1 [(.tmp 76)], none, 480⟩,
    ⟨(some 78), .append 1 8 (.tmp 72) (.tmp 77), none, 1023⟩,
    ⟨(some 16), .move (.tmp 78), none, 2047⟩] true) (.seq (.ops [⟨(some 80), .loadA 2 (.tmp 3), none, 0⟩,
    ⟨(some 81), .move (.tmp 10), none, 0⟩,
    ⟨(some 82), .move (.tmp 12), none, 0⟩,
    ⟨(some 83), .iaddr 1 (.tmp 81) (.tmp 82), none, 6⟩,
    ⟨(some 84), .load1 (.tmp 83), none, 14⟩,
    ⟨(some 85), .move (.tmp 9), none, 0⟩,
    ⟨(some 86), .move (.tmp 13), none, 0⟩,
    ⟨(some 87), .move (.tmp 15), none, 0⟩,
    ⟨(some 88), .iaddr 1 (.tmp 86) (.tmp 87), none, 192⟩,
    ⟨(some 89), .load1 (.tmp 88), none, 448⟩,
    ⟨(some 90), .iaddr 3 (.tmp 85) (.tmp 89), none, 992⟩,
    ⟨(some 91), .loadA 3 (.tmp 90), none, 2016⟩,
    ⟨(some 92), .call 28 [(.tmp 80), (.tmp 84), (.tmp 91)], none, 4095⟩,
    ⟨(some 79), .move (.tmp 92), none, 8191⟩,
    ⟨(some 93), .ext 0 (.tmp 79), none, 16383⟩,
    ⟨(some 94), .ext 1 (.tmp 79), none, 16383⟩,
    ⟨(some 17), .move (.tmp 93), none, 32767⟩,
    ⟨(some 18), .move (.tmp 94), none, 131071⟩] true) (.seq (.seq (.ops [⟨(some 95), .move (.tmp 18), none, 0⟩,
    ⟨(some 96), .bin .neq (.tmp 95) (.const (.int .i64 0)), none, 0⟩] false) (.cond (.tmp 96) (.seq (.ops [⟨(some 97), .build [(.slice none 0 0), (.slice none 0 0)] [], none, 0⟩,
    ⟨(some 98), .move (.tmp 16), none, 0⟩,
    ⟨(some 99), .move (.tmp 18), none, 0⟩,
    ⟨none, .store 2 (.tmp 6) (.tmp 97), none, 0⟩,
    ⟨(some 7), .move (.tmp 98), none, 0⟩,
    ⟨(some 8), .move (.tmp 99), none, 0⟩] false) (.ret)) (.skip))) (.seq (.seq (.ops [⟨(some 19), .move (.const (.int .i64 0)), none, 0⟩] false) (.block 4 (.loop c7_3))) (.seq (.ops [⟨(some 20), .move (.const (.int .i64 0)), none, 0⟩] false) (.seq (.block 6 (.loop c7_4)) (.seq (.seq (.ops [⟨(some 129), .move (.tmp 20), none, 0⟩,
    ⟨(some 130), .move (.tmp 10), none, 0⟩,
    ⟨(some 131), .len (.tmp 130), none, 0⟩,
    ⟨(some 132), .bin .eql (.tmp 129) (.tmp 131), none, 0⟩] false) (.cond (.tmp 132) (.seq (.seq (.ops [⟨(some 133), .move (.tmp 20), none, 0⟩,
    ⟨(some 134), .move (.tmp 2), none, 0⟩,
    ⟨(some 135), .bin .eql (.tmp 133) (.tmp 134), none, 0⟩] false) (.cond (.tmp 135) (.seq (.ops [⟨(some 136), .build [(.slice none 0 0), (.slice none 0 0)] [], none, 0⟩,
    ⟨(some 137), .move (.tmp 16), none, 0⟩,
    ⟨none, .store 2 (.tmp 6) (.tmp 136), none, 0⟩,
    ⟨(some 7), .move (.tmp 137), none, 0⟩,
    ⟨(some 8), .move (.const (.int .i64 8)), none, 0⟩] false) (.ret)) (.skip))) (.seq (.ops [⟨(some 138), .move (.tmp 10), none, 0⟩,
    ⟨(some 139), .move (.tmp 17), none, 0⟩,
    ⟨(some 140), .bslice 1 1 [(.tmp 139)], none, 0⟩,
    ⟨(some 141), .append 1 24 (.tmp 138) (.tmp 140), none, 0⟩,
    ⟨(some 10), .move (.tmp 141), none, 0⟩] false) (.ops [⟨(some 142), .move (.tmp 11), none, 0⟩,
    ⟨(some 143), .move (.tmp 16), none, 0⟩,
    ⟨(some 144), .bslice 1 1 [(.tmp 143)], none, 0⟩,
    ⟨(some 145), .append 1 24 (.tmp 142) (.tmp 144), none, 0⟩,
    ⟨(some 11), .move (.tmp 145), none, 0⟩] false))) (.skip))) (.ops [⟨(some 146), .move (.tmp 14), none, 0⟩,
    ⟨(some 147), .move (.tmp 13), none, 0⟩,
    ⟨(some 148), .move (.tmp 15), none, 0⟩,
    ⟨(some 149), .iaddr 1 (.tmp 147) (.tmp 148), none, 0⟩,
    ⟨(some 150), .load1 (.tmp 149), none, 0⟩,
    ⟨(some 151), .move (.tmp 20), none, 0⟩,
    ⟨(some 152), .build [(.int .i64 0), (.int .i64 0)] [(0, 1, (.tmp 150)), (1, 1, (.tmp 151))], none, 0⟩,
    ⟨(some 153), .bslice 2 1 [(.tmp 152)], none, 0⟩,
    ⟨(some 154), .append 2 16 (.tmp 146) (.tmp 153), none, 0⟩,
    ⟨(some 14), .move (.tmp 154), none, 0⟩] false))))))))) (.ops [⟨(some 66), .move (.tmp 15), none, 0⟩,
    ⟨(some 67), .bin .add (.tmp 66) (.const (.int .i64 1)), none, 0⟩,
    ⟨(some 15), .move (.tmp 67), none, 0⟩] false))
def c7_1 : PC := .seq (.seq (.ops [⟨(some 49), .move (.tmp 12), none, 0⟩,
    ⟨(some 50), .move (.tmp 10), none, 0⟩,
    ⟨(some 51), .len (.tmp 50), none, 0⟩,
    ⟨(some 52), .bin .lss (.tmp 49) (.tmp 51), none, 0⟩] false) (.cond (.tmp 52) (.skip) (.exit 0))) (.seq (.block 1 (.seq (.ops [⟨(some 55), .loadA 2 (.tmp 3), none, 0⟩,
    ⟨(some 56), .move (.tmp 9), none, 0⟩,
    ⟨(some 57), .move (.tmp 10), none, 0⟩,
    ⟨(some 58), .move (.tmp 12), none, 0⟩,
    ⟨(some 59), .iaddr 1 (.tmp 57) (.tmp 58), none, 12⟩,
    ⟨(some 60), .load1 (.tmp 59), none, 28⟩,
    ⟨(some 61), .call 27 [(.tmp 55), (.tmp 56), (.tmp 60)], none, 63⟩,
    ⟨(some 13), .move (.tmp 61), none, 127⟩] true) (.seq (.ops [⟨(some 14), .move (.const (.slice none 0 0)), none, 0⟩] false) (.seq (.seq (.ops [⟨(some 15), .move (.const (.int .i64 0)), none, 0⟩] false) (.block 2 (.loop c7_2))) (.ops [⟨(some 155), .faddr 1 (.tmp 6), none, 0⟩,
    ⟨(some 156), .load1 (.tmp 155), none, 0⟩,
    ⟨(some 157), .move (.tmp 14), none, 0⟩,
    ⟨(some 158), .bslice 1 1 [(.tmp 157)], none, 0⟩,
    ⟨(some 159), .append 1 24 (.tmp 156) (.tmp 158), none, 0⟩,
    ⟨(some 160), .faddr 1 (.tmp 6), none, 0⟩,
    ⟨none, .store 1 (.tmp 160) (.tmp 159), none, 0⟩] false))))) (.ops [⟨(some 53), .move (.tmp 12), none, 0⟩,
    ⟨(some 54), .bin .add (.tmp 53) (.const (.int .i64 1)), none, 0⟩,
    ⟨(some 12), .move (.tmp 54), none, 0⟩] false))
def c7 : PC := .seq (.ops [⟨(some 3), .box (.tmp 0), none, 0⟩,
    ⟨(some 6), .alloc [(.slice none 0 0), (.slice none 0 0)], none, 0⟩,
    ⟨(some 7), .move (.const (.slice none 0 0)), none, 0⟩,
    ⟨(some 8), .move (.const (.int .i64 0)), none, 0⟩] false) (.seq (.ops [⟨(some 22), .loadA 2 (.tmp 3), none, 0⟩,
    ⟨(some 23), .call 25 [(.tmp 22)], none, 0⟩,
    ⟨(some 21), .move (.tmp 23), none, 0⟩,
    ⟨(some 24), .ext 0 (.tmp 21), none, 0⟩,
    ⟨(some 25), .ext 1 (.tmp 21), none, 0⟩,
    ⟨(some 9), .move (.tmp 24), none, 0⟩,
    ⟨(some 8), .move (.tmp 25), none, 0⟩] false) (.seq (.seq (.ops [⟨(some 26), .move (.tmp 8), none, 0⟩,
    ⟨(some 27), .bin .neq (.tmp 26) (.const (.int .i64 0)), none, 0⟩] false) (.cond (.tmp 27) (.seq (.ops [⟨(some 28), .loadA 2 (.tmp 6), none, 0⟩,
    ⟨(some 29), .move (.tmp 8), none, 0⟩,
    ⟨none, .store 2 (.tmp 6) (.tmp 28), none, 0⟩,
    ⟨(some 7), .move (.const (.slice none 0 0)), none, 0⟩,
    ⟨(some 8), .move (.tmp 29), none, 0⟩] false) (.ret)) (.skip))) (.seq (.seq (.ops [⟨(some 30), .move (.tmp 1), none, 0⟩,
    ⟨(some 31), .bin .lss (.tmp 30) (.const (.int .i64 1)), none, 0⟩,
    ⟨(some 32), .move (.tmp 31), none, 0⟩,
    ⟨(some 33), .move (.tmp 1), (some (32, false)), 0⟩,
    ⟨(some 34), .bin .gtr (.tmp 33) (.const (.int .i64 9)), (some (32, false)), 0⟩,
    ⟨(some 35), .pick (.tmp 32) (.const (.bool true)) (.tmp 34), none, 0⟩,
    ⟨(some 36), .move (.tmp 35), none, 0⟩,
    ⟨(some 37), .move (.tmp 2), (some (36, false)), 0⟩,
    ⟨(some 38), .bin .lss (.tmp 37) (.const (.int .i64 1)), (some (36, false)), 0⟩,
    ⟨(some 39), .pick (.tmp 36) (.const (.bool true)) (.tmp 38), none, 0⟩,
    ⟨(some 40), .move (.tmp 39), none, 0⟩,
    ⟨(some 41), .move (.tmp 2), (some (40, false)), 0⟩,
    ⟨(some 42), .bin .gtr (.tmp 41) (.const (.int .i64 200)), (some (40, false)), 0⟩,
    ⟨(some 43), .pick (.tmp 40) (.const (.bool true)) (.tmp 42), none, 0⟩] false) (.cond (.tmp 43) (.seq (.ops [⟨(some 44), .loadA 2 (.tmp 6), none, 0⟩,
    ⟨none, .store 2 (.tmp 6) (.tmp 44), none, 0⟩,
    ⟨(some 7), .move (.const (.slice none 0 0)), none, 0⟩,
    ⟨(some 8), .move (.const (.int .i64 1)), none, 0⟩] false) (.ret)) (.skip))) (.seq (.ops [⟨(some 45), .loadA 2 (.tmp 3), none, 0⟩,
    ⟨(some 46), .call 26 [(.tmp 45)], none, 0⟩,
    ⟨(some 47), .bslice 1 1 [(.tmp 46)], none, 0⟩,
    ⟨(some 10), .move (.tmp 47), none, 0⟩] false) (.seq (.ops [⟨(some 48), .bslice 1 1 [(.const (.slice none 0 0))], none, 0⟩,
    ⟨(some 11), .move (.tmp 48), none, 0⟩] false) (.seq (.seq (.ops [⟨(some 12), .move (.const (.int .i64 0)), none, 0⟩] false) (.block 0 (.loop c7_1))) (.seq (.ops [⟨(some 161), .move (.tmp 10), none, 0⟩,
    ⟨(some 162), .faddr 0 (.tmp 6), none, 0⟩,
    ⟨none, .store 1 (.tmp 162) (.tmp 161), none, 0⟩] false) (.seq (.ops [⟨(some 163), .loadA 2 (.tmp 6), none, 0⟩,
    ⟨none, .store 2 (.tmp 6) (.tmp 163), none, 0⟩,
    ⟨(some 7), .move (.const (.slice none 0 0)), none, 0⟩,
    ⟨(some 8), .move (.const (.int .i64 0)), none, 0⟩] false) (.ret)))))))))
set_option maxRecDepth 100000 in
theorem c7_ok : FunOK Try.prog 7 164 [.agg 6 2, .tmp 7, .tmp 8] c7 := ⟨⟨Try.f7, Try.func7, rfl, by kernel_rfl, rfl, by kernel_rfl⟩⟩
set_option maxRecDepth 100000 in
theorem ref_Explored (P : ProcD) (hP : P.Fits) (tok st : Int) : PCall Try.prog 7 [dproc P, .sc (.int .i64 tok), .sc (.int .i64 st)] (.tup [dspace (P.exM tok st) (P.exN tok st), dints (P.exW tok st), .sc (.int .i64 (P.exE tok st))]) := by
  refine pcall_intro c7_ok (by simp) (by simp [PureL, Pure, pure_dproc]) ?_ (by simp [Pure, PureL, pure_dspace, pure_dints])
  have bad : ∀ {H : List AObj} (e : Int), e ≠ 0 → P.exE tok st = e → P.exW tok st = [] → Deep H (.tup [.agg [.sc (.slice none 0 0), .sc (.slice none 0 0)], .sc (.slice none 0 0), .sc (.int .i64 e)]) (.tup [dspace (P.exM tok st) (P.exN tok st), dints (P.exW tok st), .sc (.int .i64 (P.exE tok st))]) := fun e h1 h2 h3 => by
    unfold ProcD.exM ProcD.exN
    rw [h2, if_neg h1, if_neg h1, h3]
    exact .tup _ _ (.cons _ _ _ _ (.agg _ _ (.cons _ _ _ _ (.none _) (.cons _ _ _ _ (.none _) .nil))) (.cons _ _ _ _ (.none _) (deepL_refl _)))
  unfold dproc ProcD.cells
  (apply rd_sound; focus (repeat' constructor))
  ((conv=>whnf);repeat(refine And.intro rfl ?_;(conv=>whnf)))
  (refine .inl ⟨_, (ref_Steps P hP), ?_⟩; ((conv=>whnf);repeat(refine And.intro rfl ?_;(conv=>whnf))))
  (refine ifK_split (fun h1 => ?_) (fun h1 => ?_) <;> (rw [h1]; ((conv=>whnf);repeat(refine And.intro rfl ?_;(conv=>whnf)))))
  · have h1 : P.stepsE ≠ 0 := by ((try simp only [oo, reduceCtorEq] at *) <;> omega)
    exact bad _ h1 (by unfold ProcD.exE; rw [if_pos h1]) (by unfold ProcD.exW; rw [if_pos (.inl h1)])
  have h1 : P.stepsE = 0 := by ((try simp only [oo, reduceCtorEq] at *) <;> omega)
  have bad1 : ∀ {H : List AObj}, ProcD.badTS tok st → Deep H (.tup [.agg [.sc (.slice none 0 0), .sc (.slice none 0 0)], .sc (.slice none 0 0), .sc (.int .i64 1)]) (.tup [dspace (P.exM tok st) (P.exN tok st), dints (P.exW tok st), .sc (.int .i64 (P.exE tok st))]) := fun h =>
    bad 1 (by decide) (by unfold ProcD.exE; rw [if_neg (by omega), if_pos h]) (by unfold ProcD.exW; rw [if_pos (.inr (.inl h))])
  (refine ifK_split (fun h2 => ?_) (fun h2 => ?_) <;> (rw [h2]; ((conv=>whnf);repeat(refine And.intro rfl ?_;(conv=>whnf)))))
  · ((conv=>whnf);repeat(refine And.intro rfl ?_;(conv=>whnf)))
    exact bad1 (by unfold ProcD.badTS; ((try simp only [oo, reduceCtorEq] at *) <;> omega))
  (refine ifK_split (fun h3 => ?_) (fun h3 => ?_) <;> (rw [h3]; ((conv=>whnf);repeat(refine And.intro rfl ?_;(conv=>whnf)))))
  · ((conv=>whnf);repeat(refine And.intro rfl ?_;(conv=>whnf)))
    exact bad1 (by unfold ProcD.badTS; ((try simp only [oo, reduceCtorEq] at *) <;> omega))
  (refine ifK_split (fun h4 => ?_) (fun h4 => ?_) <;> (rw [h4]; ((conv=>whnf);repeat(refine And.intro rfl ?_;(conv=>whnf)))))
  · ((conv=>whnf);repeat(refine And.intro rfl ?_;(conv=>whnf)))
    exact bad1 (by unfold ProcD.badTS; ((try simp only [oo, reduceCtorEq] at *) <;> omega))
  (refine ifK_split (fun h5 => ?_) (fun h5 => ?_) <;> (rw [h5]; ((conv=>whnf);repeat(refine And.intro rfl ?_;(conv=>whnf)))))
  · exact bad1 (by unfold ProcD.badTS; ((try simp only [oo, reduceCtorEq] at *) <;> omega))
  clear bad1
  obtain ⟨s, rfl⟩ : ∃ s : Nat, st = s := ⟨st.toNat, by ((try simp only [oo, reduceCtorEq] at *) <;> omega)⟩
  have g2 : 1 ≤ tok := by ((try simp only [oo, reduceCtorEq] at *) <;> omega)
  have g3 : tok ≤ 9 := by ((try simp only [oo, reduceCtorEq] at *) <;> omega)
  have g4 : 1 ≤ s := by ((try simp only [oo, reduceCtorEq] at *) <;> omega)
  have g5 : s ≤ 200 := by ((try simp only [oo, reduceCtorEq] at *) <;> omega)
  have hnb : ¬ ProcD.badTS tok s := by unfold ProcD.badTS; omega
  have e1 : P.exE tok s = (P.exF tok s).e := by unfold ProcD.exE; rw [if_neg (by omega), if_neg hnb, Int.toNat_natCast]
  have eW : P.exW tok s = if (P.exF tok s).e = 0 then [] else rtC (P.exF tok s).org (P.exF tok s).last := by
    unfold ProcD.exW
    rw [Int.toNat_natCast]
    by_cases q : (P.exF tok s).e = 0
    · rw [if_pos (.inr (.inr q)), if_pos q]
    · rw [if_neg (fun w => w.elim (fun q1 => q1 h1) fun w => w.elim (fun q1 => hnb q1) fun q1 => q q1), if_neg q]
  have eM : P.exM tok s = if (P.exF tok s).e = 0 then (P.exF tok s).marks else [] := by unfold ProcD.exM; rw [e1, Int.toNat_natCast]
  have eN : P.exN tok s = if (P.exF tok s).e = 0 then (P.exF tok s).next else [] := by unfold ProcD.exN; rw [e1, Int.toNat_natCast]
  rw [e1, eW, eM, eN]
  clear bad e1 eW eM eN h2 h3 h4 h5 hnb
  obtain ⟨h0, _, h60⟩ := ProcD.stepsE_zero h1
  have h30 := (chk_small h0).2
  (refine .inl ⟨_, (ref_Begin P hP h1), ?_⟩; ((conv=>whnf);repeat(refine And.intro rfl ?_;(conv=>whnf))))
  have eF : P.exF tok s = P.runF tok s 201 0 [P.beginL] [(-1, -1)] [] (-1, -1) := rfl
  generalize P.exF tok s = F at eF
  have hS0 := ProcD.Sp.start h1 (tok := tok) g4
  generalize hBg : P.beginL = M0 at eF hS0
  refine pwp_ghostB (leB_close 4 (H' := [.row true [.lst 2 (P.nodes.map nrow), .lst 2 (P.flows.map frow)], .row true [.sc (.slice none 0 0), .sc (.slice none 0 0)], .vec true 0 1 (grows [M0]), .vec true 0 1 (grows [[]])])
    (env' := [(1, .sc (.int .i64 tok)), (2, .sc (.int .i64 s)), (3, .loc 0 0), (6, .loc 1 0), (9, dsteps P.stepsL), (10, .own 2 0 0 1), (11, .own 3 0 0 1), (12, .sc (.int .i64 0))]) (by simp) rfl ?_ ?_) ?_
  · (repeat' (first | exact trivial | exact rfl | exact DeepM.refl _ | exact DeepML.refl _ | exact DeepMLL.refl _ | refine And.intro ?_ ?_ | (simp [Under, UnderL, UnderLL, -List.map_take, -List.map_drop]; done)))
  · have hpu := underL_pure (m := 4) _ (pure_pcells' P)
    exact ⟨⟨rfl, .refl _, hpu⟩, ⟨rfl, .refl _, by simp [UnderL, Under]⟩, ⟨rfl, rfl, rfl, .refl _, by simp⟩, ⟨rfl, rfl, rfl, .cons _ _ _ _ (.cons _ _ _ _ (.none _) (.refl _)) (.refl _), by simp⟩, trivial⟩
  refine pwp_ghostB (leB_nilc 1 1 1 (by simp) rfl rfl) ?_
  refine pwp_for [1, 2, 3, 6, 9] (fun ((mk, og, wy, nx, la, c, n) : List (List Int) × List Org × List (List Int) × List (List EdgeD) × Org × Nat × Nat) => [(10, .own 2 c 0 (c + 1)), (11, .own 3 c 0 (c + 1)), (12, .sc (.int .i64 n))])
    (fun (mk, og, wy, nx, la, c, n) => [(1, .row true [.sc (.slice none 0 0), .own 4 n 0 n]), (2, .vec true c 1 (grows mk)), (3, .vec true c 1 (grows wy)), (4, .vec true n 1 (erows nx))])
    (fun (mk, og, wy, nx, la, c, n) => n ≤ c + 1 ∧ mk.length = c + 1 ∧ ProcD.Sp P tok s mk og ∧ WaysOK og wy ∧ nx.length = n ∧ P.runF tok s (201 - n) n mk og nx la = F) (fun (mk, og, wy, nx, la, c, n) => 201 - n) ([M0], [(-1, -1)], [[]], [], (-1, -1), 0, 0) ?_
  ((conv=>whnf);repeat(refine And.intro rfl ?_;(conv=>whnf)))
  refine ⟨⟨by omega, rfl, hS0, ⟨rfl, fun i hi => ?_⟩, rfl, eF.symm⟩, by (repeat' (first | exact trivial | refine And.intro rfl ?_)), rfl, ?_⟩
  · have : i = 0 := by simp at hi; exact hi
    subst this
    rfl
  rintro ⟨mk, og, wy, nx, la, c, n⟩ ⟨hn, hmk, hS, hW, hnx, hF⟩
  have hr := hS.room
  have hol := hS.len
  obtain ⟨f, ef⟩ : ∃ f, 201 - n = f + 1 := ⟨200 - n, by omega⟩
  rw [ef] at hF
  simp only [ProcD.runF] at hF
  ((conv=>whnf);repeat(refine And.intro rfl ?_;(conv=>whnf)))
  (apply rd_sound; focus (repeat' constructor))
  ((conv=>whnf);repeat(refine And.intro rfl ?_;(conv=>whnf)))
  (refine ifK_split (fun h2 => ?_) (fun h2 => ?_) <;> (rw [h2]; ((conv=>whnf);repeat(refine And.intro rfl ?_;(conv=>whnf)))))
  · have hn' : n < mk.length := by ((try simp only [oo, reduceCtorEq] at *) <;> omega)
    rw [if_pos hn'] at hF
    (refine ⟨by omega, (by first | omega | (simp; done) | (simp; omega) | (simp only [ll]; omega)), ?_⟩; ((conv=>whnf);repeat(refine And.intro rfl ?_;(conv=>whnf))))
    refine ⟨_, grows_at (k := n) (by omega) hn', ?_⟩
    ((conv=>whnf);repeat(refine And.intro rfl ?_;(conv=>whnf)))
    have hMg := hS.good _ (ProcD.mem_getDL hn')
    have hok := ProcD.edgesF_ok (tok := tok) (st := s) (n := n) hMg (P.enL (mk.getD n [])) mk og [] la (fun _ h => h) hS hn'
    have hLn := P.enL_len (mk.getD n [])
    generalize hM : mk.getD n [] = M at hF hMg hok hLn
    have eM : P.markE M = 0 := by unfold ProcD.markE; rw [if_neg (by omega), if_pos hMg]
    (refine .inl ⟨_, (ref_Enabled P hP M eM), ?_⟩; ((conv=>whnf);repeat(refine And.intro rfl ?_;(conv=>whnf))))
    generalize hR : P.edgesF tok s n M (P.enL M) mk og [] la = R at hF hok
    generalize hL : P.enL M = L at hR hLn
    refine pwp_ghostB (leB_nil 14 2 (by simp) rfl) ?_
    refine pwp_for [1, 2, 3, 6, 9, 12, 13] (fun ((mk, og, wy, cur, la, c, i) : List (List Int) × List Org × List (List Int) × List EdgeD × Org × Nat × Nat) => [(10, .own 2 c 0 (c + 1)), (11, .own 3 c 0 (c + 1)), (14, .own 5 i 0 i), (15, .sc (.int .i64 i))])
      (fun (mk, og, wy, cur, la, c, i) => [(2, .vec true c 1 (grows mk)), (3, .vec true c 1 (grows wy)), (5, .vec true i 2 (prows cur))])
      (fun (mk, og, wy, cur, la, c, i) => i ≤ L.length ∧ n < mk.length ∧ mk.length = c + 1 ∧ mk.getD n [] = M ∧ ProcD.Sp P tok s mk og ∧ WaysOK og wy ∧ cur.length = i ∧ P.edgesF tok s n M (L.drop i) mk og cur la = R) (fun (mk, og, wy, cur, la, c, i) => L.length - i) (mk, og, wy, [], la, c, 0) ?_
    ((conv=>whnf);repeat(refine And.intro rfl ?_;(conv=>whnf)))
    refine ⟨⟨by omega, hn', hmk, hM, hS, hW, rfl, hR⟩, by (repeat' (first | exact trivial | refine And.intro rfl ?_)), rfl, ?_⟩
    rintro ⟨mk', og', wy', cur, la', c', i⟩ ⟨hi, hn2, hmk', hM', hS', hW', hc, hF2⟩
    have hr' := hS'.room
    have hol' := hS'.len
    have hwl := hW'.1
    ((conv=>whnf);repeat(refine And.intro rfl ?_;(conv=>whnf)))
    (apply rd_sound; focus (repeat' constructor))
    ((conv=>whnf);repeat(refine And.intro rfl ?_;(conv=>whnf)))
    rw [List.length_map]
    (refine ifK_split (fun h3 => ?_) (fun h3 => ?_) <;> (rw [h3]; ((conv=>whnf);repeat(refine And.intro rfl ?_;(conv=>whnf)))))
    · have hi' : i < L.length := by ((try simp only [oo, reduceCtorEq] at *) <;> omega)
      rw [ProcD.drop_cons' hi', ProcD.edgesF_cons] at hF2
      have hxm : L.getD i 0 ∈ P.enL M := by rw [hL]; exact mem_getD hi'
      (refine ⟨by omega, (by first | omega | (simp; done) | (simp; omega) | (simp only [ll]; omega)), ?_⟩; ((conv=>whnf);repeat(refine And.intro rfl ?_;(conv=>whnf))))
      refine ⟨_, grows_at (L := wy') (k := n) (by omega) (by omega), ?_⟩
      ((conv=>whnf);repeat(refine And.intro rfl ?_;(conv=>whnf)))
      have hwn := hW'.2 n (by omega)
      have hwnl := rtC_len og' (og'.getD n (0, 0))
      have hbn := hS'.bk.at (i := n) (by omega)
      rw [← hwn] at hwnl
      have hstep := rtC_step hS'.bk (a := (n : Int)) (k := L.getD i 0) (by omega) (by omega)
      have hput := hW'.put hS'.bk (n := (n : Int)) (k := L.getD i 0) (by omega) (by omega)
      rw [Int.toNat_natCast, ← hwn] at hstep
      rw [Int.toNat_natCast] at hput
      generalize wy'.getD n [] = wn at hwnl hstep hput
      refine ⟨(by unfold sliceAppend; simp only [ll]; omega), ?_⟩
      ((conv=>whnf);repeat(refine And.intro rfl ?_;(conv=>whnf)))
      refine ⟨by omega, _, intsD_at (l := L) (k := i) (by omega) hi', ?_⟩
      ((conv=>whnf);repeat(refine And.intro rfl ?_;(conv=>whnf)))
      refine ⟨(by unfold sliceAppend; simp only [ll]; omega), ?_⟩
      ((conv=>whnf);repeat(refine And.intro rfl ?_;(conv=>whnf)))
      (refine ⟨by omega, (by first | omega | (simp; done) | (simp; omega) | (simp only [ll]; omega)), ?_⟩; ((conv=>whnf);repeat(refine And.intro rfl ?_;(conv=>whnf))))
      refine ⟨_, grows_at (L := mk') (k := n) (by omega) hn2, ?_⟩
      ((conv=>whnf);repeat(refine And.intro rfl ?_;(conv=>whnf)))
      rw [hM']
      refine ⟨by omega, _, intsD_at (l := L) (k := i) (by omega) hi', ?_⟩
      ((conv=>whnf);repeat(refine And.intro rfl ?_;(conv=>whnf)))
      generalize hxe : L.getD i 0 = x at hF2 hxm hstep hput
      obtain ⟨_, x0, x1, xm⟩ := ProcD.enL_spec hxm
      obtain ⟨fe, fl⟩ := ProcD.fire_of hxm
      have hMk := ProcD.mark_of hMg
      have hsk := ProcD.stepAt_ok h1 x1
      refine ⟨by omega, _, step_atD (k := x.toNat) (by omega) x1, ?_⟩
      ((conv=>whnf);repeat(refine And.intro rfl ?_;(conv=>whnf)))
      have hcall := ref_Fire P hP h0 M hMk _ hsk
      rw [← fe, ← fl] at hcall
      (refine .inl ⟨_, hcall, ?_⟩; ((conv=>whnf);repeat(refine And.intro rfl ?_;(conv=>whnf))))
      have fin : ∀ {H : List AObj} {w : D} (e : Int), e ≠ 0 → (⟨e, mk', og', cur, ((n : Int), x)⟩ : SpR) = R → Deep H w (dints (wn ++ [x])) → Deep H (.tup [.agg [.sc (.slice none 0 0), .sc (.slice none 0 0)], w, .sc (.int .i64 e)]) (.tup [dspace (if F.e = 0 then F.marks else []) (if F.e = 0 then F.next else []), dints (if F.e = 0 then [] else rtC F.org F.last), .sc (.int .i64 F.e)]) := fun e q1 q2 q3 => by
        rw [← q2] at hF
        dsimp only at hF
        rw [if_pos q1] at hF
        rw [← hF]
        dsimp only
        rw [if_neg q1, if_neg q1, if_neg q1, hstep]
        exact .tup _ _ (.cons _ _ _ _ (.agg _ _ (.cons _ _ _ _ (.none _) (.cons _ _ _ _ (.none _) .nil))) (.cons _ _ _ _ q3 (deepL_refl _)))
      (refine ifK_split (fun h4 => ?_) (fun h4 => ?_) <;> (rw [h4]; ((conv=>whnf);repeat(refine And.intro rfl ?_;(conv=>whnf)))))
      · have h4 : P.firE M x ≠ 0 := by ((try simp only [oo, reduceCtorEq] at *) <;> omega)
        rw [if_pos h4] at hF2
        exact fin _ h4 hF2 (.own _ _ _ _ _ _ _ _ rfl (deepLL_eq (by rw [way_cells]; simp)))
      have h4 : P.firE M x = 0 := by ((try simp only [oo, reduceCtorEq] at *) <;> omega)
      rw [if_neg fun q => q h4] at hF2
      have hmg := ProcD.fire_good hMg hxm h4
      clear hcall fe fl
      generalize P.firL M x = m at hF2 hmg
      have hml := (ProcD.mark_of hmg).len
      refine pwp_for [1, 2, 3, 6, 9, 10, 11, 12, 13, 14, 15, 16, 17] (fun f : Nat => [(19, .sc (.int .i64 f))]) (fun _ => []) (fun f => f ≤ m.length ∧ ∀ j, j < f → ¬ m.getD j 0 > tok) (fun f => m.length - f) 0 ?_
      ((conv=>whnf);repeat(refine And.intro rfl ?_;(conv=>whnf)))
      refine ⟨⟨by omega, fun j hj => by omega⟩, by (repeat' (first | exact trivial | refine And.intro rfl ?_)), rfl, ?_⟩
      rintro f ⟨hf, hno⟩
      ((conv=>whnf);repeat(refine And.intro rfl ?_;(conv=>whnf)))
      (apply rd_sound; focus (repeat' constructor))
      ((conv=>whnf);repeat(refine And.intro rfl ?_;(conv=>whnf)))
      rw [List.length_map]
      (refine ifK_split (fun h5 => ?_) (fun h5 => ?_) <;> (rw [h5]; ((conv=>whnf);repeat(refine And.intro rfl ?_;(conv=>whnf)))))
      · have hf' : f < m.length := by ((try simp only [oo, reduceCtorEq] at *) <;> omega)
        refine ⟨by omega, _, intsD_at (l := m) (k := f) (by omega) hf', ?_⟩
        ((conv=>whnf);repeat(refine And.intro rfl ?_;(conv=>whnf)))
        (refine ifK_split (fun h6 => ?_) (fun h6 => ?_) <;> (rw [h6]; ((conv=>whnf);repeat(refine And.intro rfl ?_;(conv=>whnf)))))
        · have h6 : m.getD f 0 > tok := by ((try simp only [oo, reduceCtorEq] at *) <;> omega)
          have e7 : putE mk' m tok s = 7 := by unfold putE; rw [if_pos (overB_true hf' h6)]
          rw [e7, if_pos (by decide)] at hF2
          exact fin 7 (by decide) hF2 (.own _ _ _ _ _ _ _ _ rfl (deepLL_eq (by rw [way_cells]; simp)))
        · have h6 : ¬ m.getD f 0 > tok := by ((try simp only [oo, reduceCtorEq] at *) <;> omega)
          (refine .inl ⟨by (unfold InR; rw [IntKind.wrap_i64]; omega), ?_⟩; ((conv=>whnf);repeat(refine And.intro rfl ?_;(conv=>whnf))))
          refine ⟨f + 1, ⟨by omega, fun j hj => ?_⟩, by dsimp only; omega, leB_envH (by (repeat' (first | exact trivial | refine And.intro rfl ?_))) rfl⟩
          by_cases e : j = f
          · subst e; exact h6
          · exact hno j (by omega)
      have hov : overB m tok = false := overB_false fun j hj => hno j (by ((try simp only [oo, reduceCtorEq] at *) <;> omega))
      clear h5 hno hf
      have eE : putE mk' m tok s = if m ∈ mk' then 0 else if mk'.length = s then 8 else 0 := by unfold putE; rw [hov]; rfl
      refine pwp_for [1, 2, 3, 6, 9, 10, 11, 12, 13, 14, 15, 16, 17] (fun a : Nat => [(20, .sc (.int .i64 a))]) (fun _ => []) (fun a => a ≤ mk'.length ∧ ∀ j, j < a → mk'.getD j [] ≠ m) (fun a => mk'.length - a) 0 ?_
      ((conv=>whnf);repeat(refine And.intro rfl ?_;(conv=>whnf)))
      refine ⟨⟨by omega, fun j hj => by omega⟩, by (repeat' (first | exact trivial | refine And.intro rfl ?_)), rfl, ?_⟩
      rintro a ⟨ha, hno⟩
      ((conv=>whnf);repeat(refine And.intro rfl ?_;(conv=>whnf)))
      (apply rd_sound; focus (repeat' constructor))
      ((conv=>whnf);repeat(refine And.intro rfl ?_;(conv=>whnf)))
      (refine ifK_split (fun h5 => ?_) (fun h5 => ?_) <;> (rw [h5]; ((conv=>whnf);repeat(refine And.intro rfl ?_;(conv=>whnf)))))
      · have ha' : a < mk'.length := by ((try simp only [oo, reduceCtorEq] at *) <;> omega)
        (refine ⟨by omega, (by first | omega | (simp; done) | (simp; omega) | (simp only [ll]; omega)), ?_⟩; ((conv=>whnf);repeat(refine And.intro rfl ?_;(conv=>whnf))))
        refine ⟨_, grows_at (L := mk') (k := a) (by omega) ha', ?_⟩
        ((conv=>whnf);repeat(refine And.intro rfl ?_;(conv=>whnf)))
        have hal := (ProcD.mark_of (hS'.good _ (ProcD.mem_getDL ha'))).len
        (refine .inl ⟨_, (equal_int (mk'.getD a []) m (by omega)), ?_⟩; ((conv=>whnf);repeat(refine And.intro rfl ?_;(conv=>whnf))))
        by_cases h6 : mk'.getD a [] = m
        · rw [decide_eq_true h6]
          ((conv=>whnf);repeat(refine And.intro rfl ?_;(conv=>whnf)))
          have hb : ((a : Int) == ((c' + 1 - 0 : Nat) : Int)) = false := by simp; omega
          rw [hb]
          ((conv=>whnf);repeat(refine And.intro rfl ?_;(conv=>whnf)))
          have hmem : m ∈ mk' := h6 ▸ ProcD.mem_getDL ha'
          have e0 : putE mk' m tok s = 0 := by rw [eE, if_pos hmem]
          have eM1 : putM mk' m tok s = mk' := by unfold putM; rw [if_neg fun q => q.2 hmem]
          have eG1 : putG mk' og' m tok s ((n : Int), x) = og' := by unfold putG; rw [if_neg fun q => q.2 hmem]
          have eI1 : putI mk' m tok s = (a : Int) := by unfold putI; rw [if_pos e0, eM1, idxM_nodup hS'.one ha' h6]
          rw [if_neg fun q => q e0, eM1, eG1, eI1] at hF2
          refine ⟨by omega, _, intsD_at (l := L) (k := i) (by omega) hi', ?_⟩
          ((conv=>whnf);repeat(refine And.intro rfl ?_;(conv=>whnf)))
          rw [hxe]
          refine ⟨(by unfold sliceAppend; simp only [ll]; omega), ?_⟩
          ((conv=>whnf);repeat(refine And.intro rfl ?_;(conv=>whnf)))
          (refine .inl ⟨by (unfold InR; rw [IntKind.wrap_i64]; omega), ?_⟩; ((conv=>whnf);repeat(refine And.intro rfl ?_;(conv=>whnf))))
          refine ⟨(mk', og', wy', cur ++ [(x, (a : Int))], ((n : Int), x), c', i + 1), ⟨by omega, hn2, hmk', hM', hS', hW', by simp [hc], hF2⟩, by dsimp only; omega, ?_⟩
          (refine leB_close 6 (by simp) rfl ?_ ?_ <;> (repeat' (first | exact trivial | exact rfl | exact DeepM.refl _ | exact DeepML.refl _ | exact DeepMLL.refl _ | refine And.intro ?_ ?_ | (simp [Under, UnderL, UnderLL, -List.map_take, -List.map_drop]; done))))
          exact deepMLL_eq (prows_snoc hc.symm)
        · rw [decide_eq_false h6]
          ((conv=>whnf);repeat(refine And.intro rfl ?_;(conv=>whnf)))
          (refine .inl ⟨by (unfold InR; rw [IntKind.wrap_i64]; omega), ?_⟩; ((conv=>whnf);repeat(refine And.intro rfl ?_;(conv=>whnf))))
          refine ⟨a + 1, ⟨by omega, fun j hj => ?_⟩, by dsimp only; omega, leB_envH (by (repeat' (first | exact trivial | refine And.intro rfl ?_))) rfl⟩
          by_cases e : j = a
          · subst e; exact h6
          · exact hno j (by omega)
      · have ha' : a = mk'.length := by have : ¬ a < mk'.length := by ((try simp only [oo, reduceCtorEq] at *) <;> omega)
                                        omega
        subst ha'
        have hmem : ¬ m ∈ mk' := notMem hno
        ((conv=>whnf);repeat(refine And.intro rfl ?_;(conv=>whnf)))
        have hb : ((mk'.length : Int) == ((c' + 1 - 0 : Nat) : Int)) = true := by simp; omega
        rw [hb]
        ((conv=>whnf);repeat(refine And.intro rfl ?_;(conv=>whnf)))
        (refine ifK_split (fun h6 => ?_) (fun h6 => ?_) <;> (rw [h6]; ((conv=>whnf);repeat(refine And.intro rfl ?_;(conv=>whnf)))))
        · have h6 : mk'.length = s := by ((try simp only [oo, reduceCtorEq] at *) <;> omega)
          have e8 : putE mk' m tok s = 8 := by rw [eE, if_neg hmem, if_pos h6]
          rw [e8, if_pos (by decide)] at hF2
          exact fin 8 (by decide) hF2 (.own _ _ _ _ _ _ _ _ rfl (deepLL_eq (by rw [way_cells]; simp)))
        · have h6 : mk'.length ≠ s := by ((try simp only [oo, reduceCtorEq] at *) <;> omega)
          have e0 : putE mk' m tok s = 0 := by rw [eE, if_neg hmem, if_neg h6]
          have eM1 : putM mk' m tok s = mk' ++ [m] := by unfold putM; rw [if_pos ⟨e0, hmem⟩]
          have eG1 : putG mk' og' m tok s ((n : Int), x) = og' ++ [((n : Int), x)] := by unfold putG; rw [if_pos ⟨e0, hmem⟩]
          have eI1 : putI mk' m tok s = (mk'.length : Int) := by
            unfold putI
            rw [if_pos e0, eM1]
            congr 1
            unfold idxM
            rw [List.idxOf_append, if_neg hmem]
            simp
          have hSp := hS'.put hmg (a := (n : Int)) (k := x) (by omega) (by omega)
          rw [eM1, eG1] at hSp
          rw [if_neg fun q => q e0, eM1, eG1, eI1] at hF2
          refine ⟨(by unfold sliceAppend; simp only [ll]; omega), ?_⟩
          ((conv=>whnf);repeat(refine And.intro rfl ?_;(conv=>whnf)))
          refine ⟨(by unfold sliceAppend; simp only [ll]; omega), ?_⟩
          ((conv=>whnf);repeat(refine And.intro rfl ?_;(conv=>whnf)))
          refine ⟨by omega, _, intsD_at (l := L) (k := i) (by omega) hi', ?_⟩
          ((conv=>whnf);repeat(refine And.intro rfl ?_;(conv=>whnf)))
          rw [hxe]
          refine ⟨(by unfold sliceAppend; simp only [ll]; omega), ?_⟩
          ((conv=>whnf);repeat(refine And.intro rfl ?_;(conv=>whnf)))
          (refine .inl ⟨by (unfold InR; rw [IntKind.wrap_i64]; omega), ?_⟩; ((conv=>whnf);repeat(refine And.intro rfl ?_;(conv=>whnf))))
          refine ⟨(mk' ++ [m], og' ++ [((n : Int), x)], wy' ++ [wn ++ [x]], cur ++ [(x, (mk'.length : Int))], ((n : Int), x), c' + 1, i + 1), ⟨by omega, by simp; omega, by simp [hmk'], ?_, hSp, hput, by simp [hc], hF2⟩, by dsimp only; omega, ?_⟩
          · rw [List.getD_eq_getElem?_getD, List.getElem?_append_left hn2, ← List.getD_eq_getElem?_getD]
            exact hM'
          · (refine leB_close 6 (by simp) rfl ?_ ?_ <;> (repeat' (first | exact trivial | exact rfl | exact DeepM.refl _ | exact DeepML.refl _ | exact DeepMLL.refl _ | refine And.intro ?_ ?_ | (simp [Under, UnderL, UnderLL, -List.map_take, -List.map_drop]; done))))
            · exact deepMLL_eq (grows_snoc (by omega))
            · rw [← grows_snoc (L := wy') (c := c' + 1) (x := wn ++ [x]) (by omega)]
              exact .append _ _ _ _ (.refl _) (.cons _ _ _ _ (.cons _ _ _ _ (.own _ _ _ _ _ _ _ _ rfl rfl (deepMLL_eq (by rw [way_cells]; simp))) (.refl _)) (.refl _))
            · exact deepMLL_eq (prows_snoc hc.symm)
    · have hi' : i = L.length := by have : ¬ i < L.length := by ((try simp only [oo, reduceCtorEq] at *) <;> omega)
                                    omega
      subst hi'
      rw [List.drop_length] at hF2
      have hF2' : R = ⟨0, mk', og', cur, la'⟩ := hF2.symm
      subst hF2'
      dsimp only at hF
      rw [if_neg fun q => q rfl] at hF
      refine ⟨(by unfold sliceAppend; simp only [ll]; omega), ?_⟩
      ((conv=>whnf);repeat(refine And.intro rfl ?_;(conv=>whnf)))
      (refine .inl ⟨by (unfold InR; rw [IntKind.wrap_i64]; omega), ?_⟩; ((conv=>whnf);repeat(refine And.intro rfl ?_;(conv=>whnf))))
      refine ⟨(mk', og', wy', nx ++ [cur], la', c', n + 1), ⟨by omega, hmk', hS', hW', by simp [hnx], by rw [show 201 - (n + 1) = f by omega]; exact hF⟩, by dsimp only; omega, ?_⟩
      (refine leB_close 5 (by simp) rfl ?_ ?_ <;> (repeat' (first | exact trivial | exact rfl | exact DeepM.refl _ | exact DeepML.refl _ | exact DeepMLL.refl _ | refine And.intro ?_ ?_ | (simp [Under, UnderL, UnderLL, -List.map_take, -List.map_drop]; done))))
      rw [← erows_snoc (L := nx) (c := n) (l := cur) hnx.symm]
      refine .append _ _ _ _ (.refl _) (.cons _ _ _ _ (.cons _ _ _ _ (.own _ _ _ _ _ _ _ _ rfl rfl (deepMLL_eq ?_)) (.refl _)) (.refl _))
      rw [drop_take_all (by simp; omega)]
  · have hn' : ¬ n < mk.length := by ((try simp only [oo, reduceCtorEq] at *) <;> omega)
    rw [if_neg hn'] at hF
    rw [← hF]
    dsimp only
    rw [if_pos rfl, if_pos rfl, if_pos rfl]
    exact .tup _ _ (.cons _ _ _ _ (.agg _ _ (.cons _ _ _ _ (deep_grows hmk.symm rfl) (.cons _ _ _ _ (deep_erows hnx.symm rfl) .nil))) (.cons _ _ _ _ (.none _) (deepL_refl _)))
end

/-! ### XSp7 -/
section
open Go.RowKit
set_option linter.unusedSimpArgs false
set_option linter.unusedVariables false
theorem pair_at {l : List EdgeD} {z k : Nat} (hz : z = k) (h : k < l.length) : (prows l)[z]? = some (dpair l[k].1 l[k].2) := by
  subst hz
  unfold prows
  rw [List.getElem?_map, List.getElem?_eq_getElem h]
  rfl
theorem erow_at {L : List (List EdgeD)} {z k : Nat} (hz : z = k) (h : k < L.length) : (erows L)[z]? = some [dpairs L[k]] := by
  subst hz
  unfold erows
  rw [List.getElem?_map, List.getElem?_eq_getElem h]
  rfl
def c13_1 : PC := .seq (.ops [⟨(some 14), .bin .lss (.tmp 13) (.tmp 12), none, 0⟩] false) (.seq (.cond (.tmp 14) (.skip) (.exit 0)) (.seq (.block 1 (.seq (.ops [⟨(some 15), .move (.tmp 13), none, 0⟩,
    ⟨(some 5), .move (.tmp 15), none, 0⟩] false) (.seq (.ops [⟨(some 16), .move (.tmp 0), none, 0⟩,
    ⟨(some 17), .move (.tmp 5), none, 0⟩,
    ⟨(some 18), .iaddr 2 (.tmp 16) (.tmp 17), none, 3⟩,
    ⟨(some 19), .loadA 2 (.tmp 18), none, 7⟩,
    ⟨(some 20), .move (.tmp 1), none, 0⟩,
    ⟨(some 21), .move (.tmp 5), none, 0⟩,
    ⟨(some 22), .iaddr 2 (.tmp 20) (.tmp 21), none, 48⟩,
    ⟨(some 23), .loadA 2 (.tmp 22), none, 112⟩,
    ⟨(some 24), .eqa true [0, 0] (.tmp 19) (.tmp 23), none, 255⟩] true) (.cond (.tmp 24) (.seq (.ops [⟨(some 4), .move (.const (.bool false)), none, 0⟩] false) (.ret)) (.skip))))) (.ops [⟨(some 25), .bin .add (.tmp 13) (.const (.int .i64 1)), none, 0⟩,
    ⟨(some 13), .move (.tmp 25), none, 0⟩] false)))
def c13 : PC := .seq (.ops [⟨(some 4), .move (.const (.bool false)), none, 0⟩] false) (.seq (.seq (.ops [⟨(some 6), .move (.tmp 0), none, 0⟩,
    ⟨(some 7), .len (.tmp 6), none, 0⟩,
    ⟨(some 8), .move (.tmp 1), none, 0⟩,
    ⟨(some 9), .len (.tmp 8), none, 0⟩,
    ⟨(some 10), .bin .neq (.tmp 7) (.tmp 9), none, 0⟩] false) (.cond (.tmp 10) (.seq (.ops [⟨(some 4), .move (.const (.bool false)), none, 0⟩] false) (.ret)) (.skip))) (.seq (.seq (.ops [⟨(some 11), .move (.tmp 0), none, 0⟩,
    ⟨(some 12), .len (.tmp 11), none, 0⟩,
    ⟨(some 13), .move (.const (.int .i64 0)), none, 0⟩] false) (.block 0 (.loop c13_1))) (.seq (.ops [⟨(some 4), .move (.const (.bool true)), none, 0⟩] false) (.ret))))
set_option maxRecDepth 100000 in
theorem c13_ok : FunOK Try.prog 13 26 [.tmp 4] c13 := ⟨⟨Try.f13, Try.func13, rfl, by kernel_rfl, rfl, by kernel_rfl⟩⟩
theorem equal_edge (a b : List EdgeD) (ha : a.length ≤ 9223372036854775807) : PCall Try.prog 13 [dpairs a, dpairs b] (.sc (.bool (decide (a = b)))) := by
  refine pcall_intro c13_ok (by simp) (by simp [PureL, Pure, pure_dpairs]) ?_ (by simp [Pure])
  unfold dpairs
  (apply rd_sound; focus (repeat' constructor))
  ((conv=>whnf);repeat(refine And.intro rfl ?_;(conv=>whnf)))
  rw [prows_len, prows_len]
  have fin : ∀ {c : Bool}, c = decide (a = b) → Deep [] (.sc (.bool c)) (.sc (.bool (decide (a = b)))) := fun h => h ▸ .refl _
  (refine ifK_split (fun h1 => ?_) (fun h1 => ?_) <;> (rw [h1]; ((conv=>whnf);repeat(refine And.intro rfl ?_;(conv=>whnf)))))
  · exact fin (by rw [eq_comm, decide_eq_false_iff_not]; rintro rfl; simp at h1)
  have hl : a.length = b.length := by ((try simp only [oo, reduceCtorEq] at *) <;> omega)
  rw [prows_len]
  refine pwp_for [0, 1, 12] (fun k : Nat => [(13, .sc (.int .i64 k))]) (fun _ => []) (fun k => k ≤ a.length ∧ ∀ j (hj : j < k) (h1 : j < a.length) (h2 : j < b.length), a[j] = b[j]) (fun k => a.length - k) 0 ?_
  ((conv=>whnf);repeat(refine And.intro rfl ?_;(conv=>whnf)))
  refine ⟨⟨by omega, fun j h => by omega⟩, by (repeat' (first | exact trivial | refine And.intro rfl ?_)), rfl, ?_⟩
  rintro k ⟨hk, hall⟩
  ((conv=>whnf);repeat(refine And.intro rfl ?_;(conv=>whnf)))
  (apply rd_sound; focus (repeat' constructor))
  ((conv=>whnf);repeat(refine And.intro rfl ?_;(conv=>whnf)))
  (refine ifK_split (fun h2 => ?_) (fun h2 => ?_) <;> (rw [h2]; ((conv=>whnf);repeat(refine And.intro rfl ?_;(conv=>whnf)))))
  · have hk' : k < a.length := by ((try simp only [oo, reduceCtorEq] at *) <;> omega)
    refine ⟨by omega, _, pair_at (k := k) (by omega) hk', ?_⟩
    ((conv=>whnf);repeat(refine And.intro rfl ?_;(conv=>whnf)))
    refine ⟨by omega, _, pair_at (l := b) (k := k) (by omega) (by omega), ?_⟩
    ((conv=>whnf);repeat(refine And.intro rfl ?_;(conv=>whnf)))
    have q : ∀ x y : EdgeD, (x.1 == y.1 && (x.2 == y.2 && true)) = decide (x = y) := by
      rintro ⟨x1, x2⟩ ⟨y1, y2⟩
      simp only [Bool.and_true]
      by_cases g1 : x1 = y1 <;> by_cases g2 : x2 = y2 <;> simp [g1, g2]
    rw [q]
    (refine ifK_split (fun h3 => ?_) (fun h3 => ?_) <;> (rw [h3]; ((conv=>whnf);repeat(refine And.intro rfl ?_;(conv=>whnf)))))
    · exact fin (by rw [eq_comm, decide_eq_false_iff_not]; rintro rfl; simp [flipB] at h3)
    · (refine .inl ⟨by (unfold InR; rw [IntKind.wrap_i64]; omega), ?_⟩; ((conv=>whnf);repeat(refine And.intro rfl ?_;(conv=>whnf))))
      refine ⟨k + 1, ⟨by omega, fun j hj h1 h2 => ?_⟩, by dsimp only; omega, leB_envH (by (repeat' (first | exact trivial | refine And.intro rfl ?_))) rfl⟩
      by_cases e : j = k
      · subst e; simpa [flipB] using h3
      · exact hall j (by omega) h1 h2
  · refine fin ?_
    rw [eq_comm, decide_eq_true_eq]
    have hk' : ¬ k < a.length := by ((try simp only [oo, reduceCtorEq] at *) <;> omega)
    exact List.ext_getElem hl fun i h1 h2 => hall i (by omega) h1 h2
namespace ProcD
theorem edgesF_curlen {P : ProcD} {tok : Int} {st n : Nat} {M : List Int} : ∀ (L : List Int) (marks : List (List Int)) (org : List Org) (cur : List EdgeD) (last : Org), (P.edgesF tok st n M L marks org cur last).cur.length ≤ cur.length + L.length
  | [], _, _, _, _ => by simp [edgesF]
  | k :: r, marks, org, cur, last => by
    rw [edgesF_cons]
    split
    · simp
    · split
      · simp
      · have := edgesF_curlen (P := P) (tok := tok) (st := st) (n := n) (M := M) r (putM marks (P.firL M k) tok st) (putG marks org (P.firL M k) tok st ((n : Int), k)) (cur ++ [(k, putI marks (P.firL M k) tok st)]) ((n : Int), k)
        simp at this ⊢
        omega
theorem runF_next {P : ProcD} {tok : Int} {st : Nat} : ∀ (f n : Nat) (marks : List (List Int)) (org : List Org) (next : List (List EdgeD)) (last : Org), (∀ x ∈ next, x.length ≤ P.stepsL.length) →
    (∀ x ∈ (P.runF tok st f n marks org next last).next, x.length ≤ P.stepsL.length) ∧ (P.runF tok st f n marks org next last).next.length ≤ next.length + f
  | 0, _, _, _, next, _, h => ⟨h, Nat.le_refl _⟩
  | f + 1, n, marks, org, next, last, h => by
    simp only [runF]
    split
    · split
      · exact ⟨h, by simp⟩
      · have hl := edgesF_curlen (P := P) (tok := tok) (st := st) (n := n) (M := marks.getD n []) (P.enL (marks.getD n [])) marks org [] last
        have he := P.enL_len (marks.getD n [])
        generalize P.edgesF tok st n (marks.getD n []) (P.enL (marks.getD n [])) marks org [] last = R at hl
        obtain ⟨g1, g2⟩ := runF_next (P := P) (tok := tok) (st := st) f (n + 1) R.marks R.org (next ++ [R.cur]) R.last fun x hx => by
          rcases List.mem_append.1 hx with hx | hx
          · exact h x hx
          · rw [List.mem_singleton] at hx; subst hx; exact Nat.le_trans hl (by rw [List.length_nil, Nat.zero_add]; exact he)
        refine ⟨g1, ?_⟩
        rw [List.length_append, List.length_singleton] at g2
        omega
    · exact ⟨h, by simp⟩
end ProcD
end

end Go.Proofs.Ytjnfahdolkgnoaa
