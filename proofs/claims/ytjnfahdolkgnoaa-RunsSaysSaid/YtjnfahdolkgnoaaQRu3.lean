/-
  The world of a process: the reference's Runs, over deep values. No statement is proved here.
-/
import Derived.Test.YtjnfahdolkgnoaaQRu2
namespace Go.Proofs.Ytjnfahdolkgnoaa
open Go.RowKit
set_option linter.unusedSimpArgs false
set_option linter.unusedVariables false
def c72_1 : PC := .seq (.ops [⟨(some 9), .bin .lss (.tmp 8) (.tmp 7), none, 0⟩] false) (.seq (.cond (.tmp 9) (.skip) (.exit 0)) (.seq (.block 1 (.seq (.ops [⟨(some 10), .move (.tmp 8), none, 0⟩,
    ⟨(some 5), .move (.tmp 10), none, 0⟩] false) (.seq (.ops [⟨(some 11), .move (.tmp 1), none, 0⟩,
    ⟨(some 12), .move (.tmp 0), none, 0⟩,
    ⟨(some 13), .move (.tmp 5), none, 0⟩,
    ⟨(some 14), .iaddr 2 (.tmp 12) (.tmp 13), none, 0⟩,
    ⟨(some 15), .loadA 2 (.tmp 14), none, 0⟩,
    ⟨(some 16), .callv (.tmp 11) [(.tmp 15)], none, 0⟩] false) (.cond (.tmp 16) (.seq (.ops [⟨(some 17), .move (.tmp 5), none, 0⟩,
    ⟨(some 4), .move (.tmp 17), none, 0⟩] false) (.ret)) (.skip))))) (.ops [⟨(some 18), .bin .add (.tmp 8) (.const (.int .i64 1)), none, 0⟩,
    ⟨(some 8), .move (.tmp 18), none, 0⟩] false)))
def c72 : PC := .seq (.ops [⟨(some 4), .move (.const (.int .i64 0)), none, 0⟩] false) (.seq (.seq (.ops [⟨(some 6), .move (.tmp 0), none, 0⟩,
    ⟨(some 7), .len (.tmp 6), none, 0⟩,
    ⟨(some 8), .move (.const (.int .i64 0)), none, 0⟩] false) (.block 0 (.loop c72_1))) (.seq (.ops [⟨(some 4), .move (.const (.int .i64 (-1))), none, 0⟩] false) (.ret)))
set_option maxRecDepth 100000 in
theorem c72_ok : FunOK Try.prog 72 19 [.tmp 4] c72 := ⟨⟨Try.f72, Try.func72, rfl, by kernel_rfl, rfl, by kernel_rfl⟩⟩
theorem indexF_edge (l : List EdgeD) (hl : l.length ≤ 9223372036854775807) (p : EdgeD → Bool) (cl : FuncId) (cap : List D) (hp : PureL cap) (hc : ∀ a ∈ l, PCall Try.prog cl (.agg (dpair a.1 a.2) :: cap) (.sc (.bool (p a)))) :
    PCall Try.prog 72 [dpairs l, .fn (.func cl) [] cap] (.sc (.int .i64 (idxF p l))) := by
  refine pcall_intro c72_ok (by simp) (by simp [PureL, Pure, hp, pure_dpairs]) ?_ (by simp [Pure])
  (apply rd_sound; focus (repeat' constructor))
  ((conv=>whnf);repeat(refine And.intro rfl ?_;(conv=>whnf)))
  rw [prows_len]
  have fin : ∀ {z : Int}, z = idxF p l → Deep [] (.sc (.int .i64 z)) (.sc (.int .i64 (idxF p l))) := fun h => h ▸ .refl _
  refine pwp_for [0, 1, 7] (fun k : Nat => [(8, .sc (.int .i64 k))]) (fun _ => []) (fun k => k ≤ l.length ∧ ∀ j (hj : j < k) (hl : j < l.length), p l[j] = false) (fun k => l.length - k) 0 ?_
  ((conv=>whnf);repeat(refine And.intro rfl ?_;(conv=>whnf)))
  refine ⟨⟨by omega, fun j hj => by omega⟩, by (repeat' (first | exact trivial | refine And.intro rfl ?_)), rfl, ?_⟩
  rintro k ⟨hk, hno⟩
  ((conv=>whnf);repeat(refine And.intro rfl ?_;(conv=>whnf)))
  (apply rd_sound; focus (repeat' constructor))
  ((conv=>whnf);repeat(refine And.intro rfl ?_;(conv=>whnf)))
  (refine ifK_split (fun h => ?_) (fun h => ?_) <;> (rw [h]; ((conv=>whnf);repeat(refine And.intro rfl ?_;(conv=>whnf)))))
  · have hk' : k < l.length := by ((try simp only [oo, reduceCtorEq] at *) <;> omega)
    have e : l.getD k (0, 0) = l[k] := by rw [List.getD_eq_getElem?_getD, List.getElem?_eq_getElem hk']; rfl
    refine ⟨by omega, _, prows_at (k := k) (by omega) hk', ?_⟩
    rw [e]
    ((conv=>whnf);repeat(refine And.intro rfl ?_;(conv=>whnf)))
    (refine .inl ⟨_, (hc _ (List.getElem_mem hk')), ?_⟩; ((conv=>whnf);repeat(refine And.intro rfl ?_;(conv=>whnf))))
    (refine ifK_split (fun h2 => ?_) (fun h2 => ?_) <;> (rw [h2]; ((conv=>whnf);repeat(refine And.intro rfl ?_;(conv=>whnf)))))
    · exact fin (idxF_hit hk' h2 fun j hj => hno j hj (by omega)).symm
    · (refine .inl ⟨by (unfold InR; rw [IntKind.wrap_i64]; omega), ?_⟩; ((conv=>whnf);repeat(refine And.intro rfl ?_;(conv=>whnf))))
      refine ⟨k + 1, ⟨by omega, fun j hj hl => ?_⟩, by dsimp only; omega, leB_envH (by (repeat' (first | exact trivial | refine And.intro rfl ?_))) rfl⟩
      by_cases e : j = k
      · subst e; exact h2
      · exact hno j (by omega) hl
  · have hk' : ¬ k < l.length := by ((try simp only [oo, reduceCtorEq] at *) <;> omega)
    exact fin (idxF_none fun j hj => hno j (by omega) hj).symm
def c43 : PC := .seq (.ops [⟨(some 4), .move (.const (.bool false)), none, 0⟩] false) (.seq (.ops [⟨(some 5), .move (.tmp 0), none, 0⟩,
    ⟨(some 6), .move (.tmp 1), none, 0⟩,
    ⟨(some 7), .call 72 [(.tmp 5), (.tmp 6)], none, 0⟩,
    ⟨(some 8), .bin .geq (.tmp 7) (.const (.int .i64 0)), none, 0⟩,
    ⟨(some 4), .move (.tmp 8), none, 0⟩] false) (.ret))
set_option maxRecDepth 100000 in
theorem c43_ok : FunOK Try.prog 43 9 [.tmp 4] c43 := ⟨⟨Try.f43, Try.func43, rfl, by kernel_rfl, rfl, by kernel_rfl⟩⟩
theorem containsF_edge (l : List EdgeD) (hl : l.length ≤ 9223372036854775807) (p : EdgeD → Bool) (cl : FuncId) (cap : List D) (hp : PureL cap) (hc : ∀ a ∈ l, PCall Try.prog cl (.agg (dpair a.1 a.2) :: cap) (.sc (.bool (p a)))) :
    PCall Try.prog 43 [dpairs l, .fn (.func cl) [] cap] (.sc (.bool (l.any p))) := by
  refine pcall_intro c43_ok (by simp) (by simp [PureL, Pure, hp, pure_dpairs]) ?_ (by simp [Pure])
  (apply rd_sound; focus (repeat' constructor))
  ((conv=>whnf);repeat(refine And.intro rfl ?_;(conv=>whnf)))
  (refine .inl ⟨_, (indexF_edge l hl p cl cap hp hc), ?_⟩; ((conv=>whnf);repeat(refine And.intro rfl ?_;(conv=>whnf))))
  rw [idxF_any]
  exact .refl _
def c44 : PC := .seq (.ops [⟨(some 2), .box (.tmp 0), none, 0⟩,
    ⟨(some 3), .move (.const (.bool false)), none, 0⟩] false) (.seq (.ops [⟨(some 4), .faddr 0 (.tmp 2), none, 0⟩,
    ⟨(some 5), .load1 (.tmp 4), none, 0⟩,
    ⟨(some 6), .load1 (.tmp 1), none, 0⟩,
    ⟨(some 7), .bin .eql (.tmp 5) (.tmp 6), none, 0⟩,
    ⟨(some 3), .move (.tmp 7), none, 0⟩] false) (.ret))
set_option maxRecDepth 100000 in
theorem c44_ok : FunOK Try.prog 44 8 [.tmp 3] c44 := ⟨⟨Try.f44, Try.func44, rfl, by kernel_rfl, rfl, by kernel_rfl⟩⟩
theorem ref_Runs1 (e : EdgeD) (k : Int) : PCall Try.prog 44 [.agg (dpair e.1 e.2), .ipt [.sc (.int .i64 k)]] (.sc (.bool (e.1 == k))) := by
  refine pcall_intro c44_ok (by simp) (by simp [PureL, Pure, dpair]) ?_ (by simp [Pure])
  (apply rd_sound; focus (repeat' constructor))
  ((conv=>whnf);repeat(refine And.intro rfl ?_;(conv=>whnf)))
  exact .refl _
/-! ### Runs -/
def inGs (N : List (List EdgeD)) (m k : Nat) : List Int := ((N.getD m []).take k).map fun x => x.2
theorem inGs_zero (N : List (List EdgeD)) (m : Nat) : inGs N m 0 = [] := by simp [inGs]
theorem inGs_succ {N : List (List EdgeD)} {m k : Nat} (h : k < (N.getD m []).length) : inGs N m (k + 1) = inGs N m k ++ [((N.getD m []).getD k (0, 0)).2] := by
  unfold inGs
  rw [List.take_add_one, getE h, List.map_append]
  rfl
theorem inGs_len {N : List (List EdgeD)} {m k : Nat} (h : k ≤ (N.getD m []).length) : (inGs N m k).length = k := by
  simp only [inGs, List.length_map, List.length_take]; omega
theorem gsTo_next (N : List (List EdgeD)) (m : Nat) : gsTo N (m + 1) = if (N.getD m []).length = 0 then gsTo N m ++ [(m : Int)] else gsTo N m ++ inGs N m (N.getD m []).length := by
  simp only [gsTo, gsOf, inGs, List.take_length]
  split <;> rfl
def c12_2 : PC := .seq (.seq (.ops [⟨(some 34), .move (.tmp 12), none, 0⟩,
    ⟨(some 35), .faddr 1 (.tmp 3), none, 0⟩,
    ⟨(some 36), .load1 (.tmp 35), none, 0⟩,
    ⟨(some 37), .move (.tmp 11), none, 0⟩,
    ⟨(some 38), .iaddr 1 (.tmp 36) (.tmp 37), none, 0⟩,
    ⟨(some 39), .load1 (.tmp 38), none, 0⟩,
    ⟨(some 40), .len (.tmp 39), none, 0⟩,
    ⟨(some 41), .bin .lss (.tmp 34) (.tmp 40), none, 0⟩] false) (.cond (.tmp 41) (.skip) (.exit 2))) (.seq (.block 3 (.seq (.ops [⟨(some 44), .move (.tmp 9), none, 0⟩,
    ⟨(some 45), .faddr 1 (.tmp 3), none, 0⟩,
    ⟨(some 46), .load1 (.tmp 45), none, 0⟩,
    ⟨(some 47), .move (.tmp 11), none, 0⟩,
    ⟨(some 48), .iaddr 1 (.tmp 46) (.tmp 47), none, 0⟩,
    ⟨(some 49), .load1 (.tmp 48), none, 0⟩,
    ⟨(some 50), .move (.tmp 12), none, 0⟩,
    ⟨(some 51), .iaddr 2 (.tmp 49) (.tmp 50), none, 0⟩,
    ⟨(some 52), .faddr 0 (.tmp 51), none, 0⟩,
    ⟨(some 53), .load1 (.tmp 52), none, 0⟩,
    ⟨(some 54), .move (.tmp 11), none, 0⟩,
    ⟨(some 55), .build [(.int .i64 0), (.int .i64 0)] [(0, 1, (.tmp 53)), (1, 1, (.tmp 54))], none, 0⟩,
    ⟨(some 56), .bslice 2 1 [(.tmp 55)], none, 0⟩,
    ⟨(some 57), .append 2 16 (.tmp 44) (.tmp 56), none, 0⟩,
    ⟨(some 9), .move (.tmp 57), none, 0⟩] false) (.ops [⟨(some 58), .move (.tmp 10), none, 0⟩,
    ⟨(some 59), .faddr 1 (.tmp 3), none, 0⟩,
    ⟨(some 60), .load1 (.tmp 59), none, 0⟩,
    ⟨(some 61), .move (.tmp 11), none, 0⟩,
    ⟨(some 62), .iaddr 1 (.tmp 60) (.tmp 61), none, 0⟩,
    ⟨(some 63), .load1 (.tmp 62), none, 0⟩,
    ⟨(some 64), .move (.tmp 12), none, 0⟩,
    ⟨(some 65), .iaddr 2 (.tmp 63) (.tmp 64), none, 0⟩,
    ⟨(some 66), .faddr 1 (.tmp 65), none, 0⟩,
    ⟨(some 67), .load1 (.tmp 66), none, 0⟩,
    ⟨(some 68), .bslice 1 1 [(.tmp 67)], none, 0⟩,
    ⟨(some 69), .append 1 8 (.tmp 58) (.tmp 68), none, 0⟩,
    ⟨(some 10), .move (.tmp 69), none, 0⟩] false))) (.ops [⟨(some 42), .move (.tmp 12), none, 0⟩,
    ⟨(some 43), .bin .add (.tmp 42) (.const (.int .i64 1)), none, 0⟩,
    ⟨(some 12), .move (.tmp 43), none, 0⟩] false))
def c12_1 : PC := .seq (.seq (.ops [⟨(some 27), .move (.tmp 11), none, 0⟩,
    ⟨(some 28), .faddr 0 (.tmp 3), none, 0⟩,
    ⟨(some 29), .load1 (.tmp 28), none, 0⟩,
    ⟨(some 30), .len (.tmp 29), none, 0⟩,
    ⟨(some 31), .bin .lss (.tmp 27) (.tmp 30), none, 0⟩] false) (.cond (.tmp 31) (.skip) (.exit 0))) (.seq (.block 1 (.seq (.seq (.ops [⟨(some 12), .move (.const (.int .i64 0)), none, 0⟩] false) (.block 2 (.loop c12_2))) (.seq (.ops [⟨(some 70), .faddr 1 (.tmp 3), none, 0⟩,
    ⟨(some 71), .load1 (.tmp 70), none, 0⟩,
    ⟨(some 72), .move (.tmp 11), none, 0⟩,
    ⟨(some 73), .iaddr 1 (.tmp 71) (.tmp 72), none, 0⟩,
    ⟨(some 74), .load1 (.tmp 73), none, 0⟩,
    ⟨(some 75), .len (.tmp 74), none, 0⟩,
    ⟨(some 76), .bin .eql (.tmp 75) (.const (.int .i64 0)), none, 0⟩] false) (.cond (.tmp 76) (.seq (.ops [⟨(some 77), .move (.tmp 9), none, 0⟩,
    ⟨(some 78), .move (.tmp 11), none, 0⟩,
    ⟨(some 79), .build [(.int .i64 0), (.int .i64 0)] [(0, 1, (.const (.int .i64 (-1)))), (1, 1, (.tmp 78))], none, 0⟩,
    ⟨(some 80), .bslice 2 1 [(.tmp 79)], none, 0⟩,
    ⟨(some 81), .append 2 16 (.tmp 77) (.tmp 80), none, 0⟩,
    ⟨(some 9), .move (.tmp 81), none, 0⟩] false) (.ops [⟨(some 82), .move (.tmp 10), none, 0⟩,
    ⟨(some 83), .move (.tmp 11), none, 0⟩,
    ⟨(some 84), .bslice 1 1 [(.tmp 83)], none, 0⟩,
    ⟨(some 85), .append 1 8 (.tmp 82) (.tmp 84), none, 0⟩,
    ⟨(some 10), .move (.tmp 85), none, 0⟩] false)) (.skip))))) (.ops [⟨(some 32), .move (.tmp 11), none, 0⟩,
    ⟨(some 33), .bin .add (.tmp 32) (.const (.int .i64 1)), none, 0⟩,
    ⟨(some 11), .move (.tmp 33), none, 0⟩] false))
def c12_4 : PC := .seq (.seq (.ops [⟨(some 96), .move (.tmp 16), none, 0⟩,
    ⟨(some 97), .move (.tmp 9), none, 0⟩,
    ⟨(some 98), .len (.tmp 97), none, 0⟩,
    ⟨(some 99), .bin .lss (.tmp 96) (.tmp 98), none, 0⟩] false) (.cond (.tmp 99) (.skip) (.exit 6))) (.seq (.block 7 (.seq (.ops [⟨(some 102), .move (.tmp 9), none, 0⟩,
    ⟨(some 103), .move (.tmp 16), none, 0⟩,
    ⟨(some 104), .iaddr 2 (.tmp 102) (.tmp 103), none, 3⟩,
    ⟨(some 105), .faddr 1 (.tmp 104), none, 7⟩,
    ⟨(some 106), .load1 (.tmp 105), none, 15⟩,
    ⟨(some 107), .move (.tmp 10), none, 0⟩,
    ⟨(some 108), .move (.tmp 14), none, 0⟩,
    ⟨(some 109), .iaddr 1 (.tmp 107) (.tmp 108), none, 96⟩,
    ⟨(some 110), .load1 (.tmp 109), none, 224⟩,
    ⟨(some 111), .bin .eql (.tmp 106) (.tmp 110), none, 511⟩] true) (.cond (.tmp 111) (.ops [⟨(some 112), .move (.tmp 15), none, 0⟩,
    ⟨(some 113), .move (.tmp 16), none, 0⟩,
    ⟨(some 114), .bslice 1 1 [(.tmp 113)], none, 0⟩,
    ⟨(some 115), .append 1 8 (.tmp 112) (.tmp 114), none, 0⟩,
    ⟨(some 15), .move (.tmp 115), none, 0⟩] false) (.skip)))) (.ops [⟨(some 100), .move (.tmp 16), none, 0⟩,
    ⟨(some 101), .bin .add (.tmp 100) (.const (.int .i64 1)), none, 0⟩,
    ⟨(some 16), .move (.tmp 101), none, 0⟩] false))
def c12_3 : PC := .seq (.seq (.ops [⟨(some 90), .move (.tmp 14), none, 0⟩,
    ⟨(some 91), .move (.tmp 9), none, 0⟩,
    ⟨(some 92), .len (.tmp 91), none, 0⟩,
    ⟨(some 93), .bin .lss (.tmp 90) (.tmp 92), none, 0⟩] false) (.cond (.tmp 93) (.skip) (.exit 4))) (.seq (.block 5 (.seq (.ops [⟨(some 15), .move (.const (.slice none 0 0)), none, 0⟩] false) (.seq (.seq (.ops [⟨(some 16), .move (.const (.int .i64 0)), none, 0⟩] false) (.block 6 (.loop c12_4))) (.seq (.ops [⟨(some 116), .faddr 1 (.tmp 13), none, 0⟩,
    ⟨(some 117), .load1 (.tmp 116), none, 0⟩,
    ⟨(some 118), .move (.tmp 15), none, 0⟩,
    ⟨(some 119), .bslice 1 1 [(.tmp 118)], none, 0⟩,
    ⟨(some 120), .append 1 24 (.tmp 117) (.tmp 119), none, 0⟩,
    ⟨(some 121), .faddr 1 (.tmp 13), none, 0⟩,
    ⟨none, .store 1 (.tmp 121) (.tmp 120), none, 0⟩] false) (.seq (.ops [⟨(some 17), .move (.const (.int .u64 9223372036854775808)), none, 0⟩] false) (.seq (.seq (.ops [⟨(some 122), .move (.tmp 9), none, 0⟩,
    ⟨(some 123), .move (.tmp 14), none, 0⟩,
    ⟨(some 124), .iaddr 2 (.tmp 122) (.tmp 123), none, 0⟩,
    ⟨(some 125), .faddr 0 (.tmp 124), none, 0⟩,
    ⟨(some 126), .load1 (.tmp 125), none, 0⟩,
    ⟨(some 127), .bin .geq (.tmp 126) (.const (.int .i64 0)), none, 0⟩] false) (.cond (.tmp 127) (.ops [⟨(some 128), .move (.tmp 7), none, 0⟩,
    ⟨(some 129), .move (.tmp 9), none, 0⟩,
    ⟨(some 130), .move (.tmp 14), none, 0⟩,
    ⟨(some 131), .iaddr 2 (.tmp 129) (.tmp 130), none, 0⟩,
    ⟨(some 132), .faddr 0 (.tmp 131), none, 0⟩,
    ⟨(some 133), .load1 (.tmp 132), none, 0⟩,
    ⟨(some 134), .iaddr 3 (.tmp 128) (.tmp 133), none, 0⟩,
    ⟨(some 135), .faddr 0 (.tmp 134), none, 0⟩,
    ⟨(some 136), .load1 (.tmp 135), none, 0⟩,
    ⟨(some 137), .bin .shl (.const (.int .u64 1)) (.tmp 136), none, 0⟩,
    ⟨(some 17), .move (.tmp 137), none, 0⟩] false) (.skip))) (.seq (.ops [⟨(some 138), .faddr 2 (.tmp 13), none, 0⟩,
    ⟨(some 139), .load1 (.tmp 138), none, 0⟩,
    ⟨(some 140), .move (.tmp 17), none, 0⟩,
    ⟨(some 141), .bslice 1 1 [(.tmp 140)], none, 0⟩,
    ⟨(some 142), .append 1 8 (.tmp 139) (.tmp 141), none, 0⟩,
    ⟨(some 143), .faddr 2 (.tmp 13), none, 0⟩,
    ⟨none, .store 1 (.tmp 143) (.tmp 142), none, 0⟩] false) (.seq (.ops [⟨(some 144), .move (.tmp 9), none, 0⟩,
    ⟨(some 145), .move (.tmp 14), none, 0⟩,
    ⟨(some 146), .iaddr 2 (.tmp 144) (.tmp 145), none, 0⟩,
    ⟨(some 147), .faddr 1 (.tmp 146), none, 0⟩,
    ⟨(some 148), .load1 (.tmp 147), none, 0⟩,
    ⟨(some 149), .bin .eql (.tmp 148) (.const (.int .i64 0)), none, 0⟩] false) (.cond (.tmp 149) (.ops [⟨(some 150), .faddr 0 (.tmp 13), none, 0⟩,
    ⟨(some 151), .load1 (.tmp 150), none, 0⟩,
    ⟨(some 152), .move (.tmp 14), none, 0⟩,
    ⟨(some 153), .bslice 1 1 [(.tmp 152)], none, 0⟩,
    ⟨(some 154), .append 1 8 (.tmp 151) (.tmp 153), none, 0⟩,
    ⟨(some 155), .faddr 0 (.tmp 13), none, 0⟩,
    ⟨none, .store 1 (.tmp 155) (.tmp 154), none, 0⟩] false) (.skip)))))))))) (.ops [⟨(some 94), .move (.tmp 14), none, 0⟩,
    ⟨(some 95), .bin .add (.tmp 94) (.const (.int .i64 1)), none, 0⟩,
    ⟨(some 14), .move (.tmp 95), none, 0⟩] false))
def c12_6 : PC := .seq (.seq (.ops [⟨(some 162), .move (.tmp 20), none, 0⟩,
    ⟨(some 163), .move (.tmp 9), none, 0⟩,
    ⟨(some 164), .len (.tmp 163), none, 0⟩,
    ⟨(some 165), .bin .lss (.tmp 162) (.tmp 164), none, 0⟩] false) (.cond (.tmp 165) (.skip) (.exit 10))) (.seq (.block 11 (.seq (.ops [⟨(some 168), .faddr 1 (.tmp 3), none, 0⟩,
    ⟨(some 169), .load1 (.tmp 168), none, 1⟩,
    ⟨(some 170), .move (.tmp 9), none, 0⟩,
    ⟨(some 171), .move (.tmp 20), none, 0⟩,
    ⟨(some 172), .iaddr 2 (.tmp 170) (.tmp 171), none, 12⟩,
    ⟨(some 173), .faddr 1 (.tmp 172), none, 28⟩,
    ⟨(some 174), .load1 (.tmp 173), none, 60⟩,
    ⟨(some 175), .iaddr 1 (.tmp 169) (.tmp 174), none, 127⟩,
    ⟨(some 176), .load1 (.tmp 175), none, 255⟩,
    ⟨(some 177), .mkfn (.func 44) [] [(.tmp 18)], none, 0⟩,
    ⟨(some 178), .call 43 [(.tmp 176), (.tmp 177)], none, 1023⟩,
    ⟨(some 21), .move (.tmp 178), none, 2047⟩] true) (.seq (.ops [⟨(some 179), .move (.tmp 21), none, 0⟩,
    ⟨(some 180), .un .not (.tmp 179), none, 1⟩,
    ⟨(some 181), .move (.tmp 180), none, 3⟩,
    ⟨(some 182), .move (.tmp 9), (some (181, false)), 7⟩,
    ⟨(some 183), .move (.tmp 20), (some (181, false)), 7⟩,
    ⟨(some 184), .iaddr 2 (.tmp 182) (.tmp 183), (some (181, false)), 31⟩,
    ⟨(some 185), .faddr 0 (.tmp 184), (some (181, false)), 63⟩,
    ⟨(some 186), .load1 (.tmp 185), (some (181, false)), 127⟩,
    ⟨(some 187), .load1 (.tmp 18), (some (181, false)), 7⟩,
    ⟨(some 188), .bin .eql (.tmp 186) (.tmp 187), (some (181, false)), 511⟩,
    ⟨(some 189), .pick (.tmp 181) (.const (.bool true)) (.tmp 188), none, 1023⟩] true) (.cond (.tmp 189) (.ops [⟨(some 190), .move (.tmp 19), none, 0⟩,
    ⟨(some 191), .move (.tmp 20), none, 0⟩,
    ⟨(some 192), .bslice 1 1 [(.tmp 191)], none, 0⟩,
    ⟨(some 193), .append 1 8 (.tmp 190) (.tmp 192), none, 0⟩,
    ⟨(some 19), .move (.tmp 193), none, 0⟩] false) (.skip))))) (.ops [⟨(some 166), .move (.tmp 20), none, 0⟩,
    ⟨(some 167), .bin .add (.tmp 166) (.const (.int .i64 1)), none, 0⟩,
    ⟨(some 20), .move (.tmp 167), none, 0⟩] false))
def c12_5 : PC := .seq (.seq (.ops [⟨(some 156), .load1 (.tmp 18), none, 0⟩,
    ⟨(some 157), .move (.tmp 7), none, 0⟩,
    ⟨(some 158), .len (.tmp 157), none, 0⟩,
    ⟨(some 159), .bin .lss (.tmp 156) (.tmp 158), none, 0⟩] false) (.cond (.tmp 159) (.skip) (.exit 8))) (.seq (.block 9 (.seq (.ops [⟨(some 19), .move (.const (.slice none 0 0)), none, 0⟩] false) (.seq (.seq (.ops [⟨(some 20), .move (.const (.int .i64 0)), none, 0⟩] false) (.block 10 (.loop c12_6))) (.ops [⟨(some 194), .faddr 3 (.tmp 13), none, 0⟩,
    ⟨(some 195), .load1 (.tmp 194), none, 0⟩,
    ⟨(some 196), .move (.tmp 19), none, 0⟩,
    ⟨(some 197), .bslice 1 1 [(.tmp 196)], none, 0⟩,
    ⟨(some 198), .append 1 24 (.tmp 195) (.tmp 197), none, 0⟩,
    ⟨(some 199), .faddr 3 (.tmp 13), none, 0⟩,
    ⟨none, .store 1 (.tmp 199) (.tmp 198), none, 0⟩] false)))) (.seq (.seq (.ops [⟨(some 200), .load1 (.tmp 18), none, 0⟩] false) (.ops [⟨(some 18), .alloc [(.int .i64 0)], none, 0⟩,
    ⟨none, .store 1 (.tmp 18) (.tmp 200), none, 0⟩] false)) (.ops [⟨(some 160), .load1 (.tmp 18), none, 0⟩,
    ⟨(some 161), .bin .add (.tmp 160) (.const (.int .i64 1)), none, 0⟩,
    ⟨none, .store 1 (.tmp 18) (.tmp 161), none, 0⟩] false)))
def c12 : PC := .seq (.ops [⟨(some 2), .box (.tmp 0), none, 0⟩,
    ⟨(some 3), .box (.tmp 1), none, 0⟩,
    ⟨(some 4), .alloc [(.slice none 0 0), (.slice none 0 0), (.slice none 0 0), (.slice none 0 0)], none, 0⟩,
    ⟨(some 5), .move (.const (.slice none 0 0)), none, 0⟩,
    ⟨(some 6), .move (.const (.int .i64 0)), none, 0⟩] false) (.seq (.ops [⟨(some 23), .loadA 2 (.tmp 2), none, 0⟩,
    ⟨(some 24), .call 25 [(.tmp 23)], none, 0⟩,
    ⟨(some 22), .move (.tmp 24), none, 0⟩,
    ⟨(some 25), .ext 0 (.tmp 22), none, 0⟩,
    ⟨(some 26), .ext 1 (.tmp 22), none, 0⟩,
    ⟨(some 7), .move (.tmp 25), none, 0⟩,
    ⟨(some 8), .move (.tmp 26), none, 0⟩] false) (.seq (.ops [⟨(some 9), .move (.const (.slice none 0 0)), none, 0⟩] false) (.seq (.ops [⟨(some 10), .move (.const (.slice none 0 0)), none, 0⟩] false) (.seq (.seq (.ops [⟨(some 11), .move (.const (.int .i64 0)), none, 0⟩] false) (.block 0 (.loop c12_1))) (.seq (.seq (.ops [⟨(some 86), .move (.tmp 9), none, 0⟩,
    ⟨(some 87), .len (.tmp 86), none, 0⟩,
    ⟨(some 88), .bin .gtr (.tmp 87) (.const (.int .i64 600)), none, 0⟩] false) (.cond (.tmp 88) (.seq (.ops [⟨(some 89), .build [(.slice none 0 0), (.slice none 0 0), (.slice none 0 0), (.slice none 0 0)] [], none, 0⟩,
    ⟨none, .store 4 (.tmp 4) (.tmp 89), none, 0⟩,
    ⟨(some 5), .move (.const (.slice none 0 0)), none, 0⟩,
    ⟨(some 6), .move (.const (.int .i64 2)), none, 0⟩] false) (.ret)) (.skip))) (.seq (.ops [⟨(some 13), .alloc [(.slice none 0 0), (.slice none 0 0), (.slice none 0 0), (.slice none 0 0)], none, 0⟩] false) (.seq (.seq (.ops [⟨(some 14), .move (.const (.int .i64 0)), none, 0⟩] false) (.block 4 (.loop c12_3))) (.seq (.seq (.ops [⟨(some 18), .alloc [(.int .i64 0)], none, 0⟩,
    ⟨none, .store 1 (.tmp 18) (.const (.int .i64 0)), none, 0⟩] false) (.block 8 (.loop c12_5))) (.seq (.ops [⟨(some 201), .loadA 4 (.tmp 13), none, 0⟩,
    ⟨(some 202), .move (.tmp 9), none, 0⟩,
    ⟨none, .store 4 (.tmp 4) (.tmp 201), none, 0⟩,
    ⟨(some 5), .move (.tmp 202), none, 0⟩,
    ⟨(some 6), .move (.const (.int .i64 0)), none, 0⟩] false) (.ret))))))))))
set_option maxRecDepth 100000 in
theorem c12_ok : FunOK Try.prog 12 203 [.agg 4 4, .tmp 5, .tmp 6] c12 := ⟨⟨Try.f12, Try.func12, rfl, by kernel_rfl, rfl, by kernel_rfl⟩⟩
set_option maxRecDepth 100000 in
theorem ref_Runs (P : ProcD) (hP : P.Fits) (M : List (List Int)) (N : List (List EdgeD)) (hF : FndN P M N) : PCall Try.prog 12 [dproc P, dspace M N]
    (if atL N N.length ≤ 600 then .tup [dwld (allL N 0) (rnNext N) (rnLab P.stepsL N) (rnFair P.stepsL N), dpairs (ofTo N N.length), .sc (.int .i64 0)] else .tup [dwld [] [] [] [], dpairs [], .sc (.int .i64 2)]) := by
  have hS := hF.sp
  have hf := hS.few
  have hl := hS.len
  have hpos := hS.pos
  obtain ⟨h0, _, h60⟩ := ProcD.stepsE_zero hF.steps
  have hnode : ∀ j, j < P.stepsL.length → 0 ≤ (P.stepsL.getD j (0, 0, 0)).1 ∧ (P.stepsL.getD j (0, 0, 0)).1 ≤ 63 := fun j hj => by
    have h1 := (ProcD.stepAt_ok hF.steps hj).node
    have := (chk_small h0).1
    omega
  refine pcall_intro c12_ok (by simp) (by simp [PureL, pure_dproc, pure_dspace]) ?_ (by split <;> simp [Pure, PureL, pure_dwld, pure_dpairs])
  (apply rd_sound; focus (repeat' constructor))
  ((conv=>whnf);repeat(refine And.intro rfl ?_;(conv=>whnf)))
  (refine .inl ⟨_, (ref_Steps P hP), ?_⟩; ((conv=>whnf);repeat(refine And.intro rfl ?_;(conv=>whnf))))
  refine pwp_ghostB (leB_trans (leB_nil 9 2 (by simp) rfl) (leB_nil 10 1 (by simp) rfl)) ?_
  refine pwp_for [3, 4, 7] (fun ((m, a) : Nat × Nat) => [(9, .own 3 a 0 a), (10, .own 4 a 0 a), (11, .sc (.int .i64 m))]) (fun (m, a) => [(3, .vec true a 2 (prows (ofTo N m))), (4, .vec true a 1 (i64s (gsTo N m)))]) (fun (m, a) => m ≤ N.length ∧ a = atL N m) (fun (m, a) => N.length - m) (0, 0) ?_
  ((conv=>whnf);repeat(refine And.intro rfl ?_;(conv=>whnf)))
  refine ⟨⟨by omega, rfl⟩, by (repeat' (first | exact trivial | refine And.intro rfl ?_)), rfl, ?_⟩
  rintro ⟨m, a⟩ ⟨hm, ha⟩
  have haS := at_small hS hm
  ((conv=>whnf);repeat(refine And.intro rfl ?_;(conv=>whnf)))
  (apply rd_sound; focus (repeat' constructor))
  ((conv=>whnf);repeat(refine And.intro rfl ?_;(conv=>whnf)))
  rw [List.length_map]
  (refine ifK_split (fun h1 => ?_) (fun h1 => ?_) <;> (rw [h1]; ((conv=>whnf);repeat(refine And.intro rfl ?_;(conv=>whnf)))))
  · have hm' : m < N.length := by ((try simp only [oo, reduceCtorEq] at *) <;> omega)
    have lx := hS.rowAt m
    have e1 := ofTo_next N m
    have e1' := gsTo_next N m
    have e2 := at_succ N m
    have e3 := many_eq N m
    have hin := fun k (hk : k < (N.getD m []).length) => inTo_succ hk
    have hgs := fun k (hk : k < (N.getD m []).length) => inGs_succ hk
    have hinl := fun k (hk : k ≤ (N.getD m []).length) => inTo_len hk
    have hgsl := fun k (hk : k ≤ (N.getD m []).length) => inGs_len hk
    have l3 : (ofTo N m).length = a := by rw [ha]; rfl
    have l4 : (gsTo N m).length = a := by rw [ha, gsTo_len]
    have hin0 := inTo_zero N m
    have hgs0 := inGs_zero N m
    have hrd := erowD_at (L := N) (z := (m : Int).toNat) (k := m) (by omega) hm'
    generalize N.getD m [] = l at *
    refine pwp_for [3, 4, 7, 11] (fun ((k, c) : Nat × Nat) => [(9, .own 3 c 0 c), (10, .own 4 c 0 c), (12, .sc (.int .i64 k))])
      (fun (k, c) => [(3, .vec true c 2 (prows (ofTo N m ++ inTo N m k))), (4, .vec true c 1 (i64s (gsTo N m ++ inGs N m k)))]) (fun (k, c) => k ≤ l.length ∧ c = a + k) (fun (k, c) => l.length - k) (0, a) ?_
    ((conv=>whnf);repeat(refine And.intro rfl ?_;(conv=>whnf)))
    refine ⟨⟨by omega, rfl⟩, by (repeat' (first | exact trivial | refine And.intro rfl ?_)), by dsimp only; rw [hin0, hgs0, List.append_nil, List.append_nil]; rfl, ?_⟩
    rintro ⟨k, c⟩ ⟨hk, hc⟩
    have hil := hinl k hk
    have hgl := hgsl k hk
    ((conv=>whnf);repeat(refine And.intro rfl ?_;(conv=>whnf)))
    (apply rd_sound; focus (repeat' constructor))
    ((conv=>whnf);repeat(refine And.intro rfl ?_;(conv=>whnf)))
    refine ⟨by omega, _, hrd, ?_⟩
    ((conv=>whnf);repeat(refine And.intro rfl ?_;(conv=>whnf)))
    rw [prows_len]
    (refine ifK_split (fun h2 => ?_) (fun h2 => ?_) <;> (rw [h2]; ((conv=>whnf);repeat(refine And.intro rfl ?_;(conv=>whnf)))))
    · have hk' : k < l.length := by ((try simp only [oo, reduceCtorEq] at *) <;> omega)
      have hi1 := hin k hk'
      have hg1 := hgs k hk'
      refine ⟨by omega, _, hrd, ?_⟩
      ((conv=>whnf);repeat(refine And.intro rfl ?_;(conv=>whnf)))
      refine ⟨by omega, _, prows_at (k := k) (by omega) hk', ?_⟩
      ((conv=>whnf);repeat(refine And.intro rfl ?_;(conv=>whnf)))
      refine ⟨(by unfold sliceAppend; simp only [ll]; omega), ?_⟩
      ((conv=>whnf);repeat(refine And.intro rfl ?_;(conv=>whnf)))
      refine ⟨by omega, _, hrd, ?_⟩
      ((conv=>whnf);repeat(refine And.intro rfl ?_;(conv=>whnf)))
      refine ⟨by omega, _, prows_at (k := k) (by omega) hk', ?_⟩
      ((conv=>whnf);repeat(refine And.intro rfl ?_;(conv=>whnf)))
      refine ⟨(by unfold sliceAppend; simp only [ll]; omega), ?_⟩
      ((conv=>whnf);repeat(refine And.intro rfl ?_;(conv=>whnf)))
      (refine .inl ⟨by (unfold InR; rw [IntKind.wrap_i64]; omega), ?_⟩; ((conv=>whnf);repeat(refine And.intro rfl ?_;(conv=>whnf))))
      refine ⟨(k + 1, c + 1), ⟨by omega, by omega⟩, by dsimp only; omega, ?_⟩
      dsimp only
      rw [hi1, hg1]
      (refine leB_close 5 (by simp) rfl ?_ ?_ <;> (repeat' (first | exact trivial | exact rfl | exact DeepM.refl _ | exact DeepML.refl _ | exact DeepMLL.refl _ | refine And.intro ?_ ?_ | (simp [Under, UnderL, UnderLL, -List.map_take, -List.map_drop]; done))))
      · rw [← List.append_assoc]
        exact deepMLL_eq (prows_snoc (by rw [List.length_append, l3, hil, hc]))
      · rw [← List.append_assoc]
        exact deepMLL_eq (i64s_snoc (by rw [List.length_append, l4, hgl, hc]))
    · have hk' : k = l.length := by have : ¬ k < l.length := by ((try simp only [oo, reduceCtorEq] at *) <;> omega)
                                    omega
      subst hk'
      refine ⟨by omega, _, hrd, ?_⟩
      ((conv=>whnf);repeat(refine And.intro rfl ?_;(conv=>whnf)))
      rw [prows_len]
      (refine ifK_split (fun h3 => ?_) (fun h3 => ?_) <;> (rw [h3]; ((conv=>whnf);repeat(refine And.intro rfl ?_;(conv=>whnf)))))
      · have h3 : l.length = 0 := by ((try simp only [oo, reduceCtorEq] at *) <;> omega)
        rw [if_pos h3] at e1 e1' e3
        refine ⟨(by unfold sliceAppend; simp only [ll]; omega), ?_⟩
        ((conv=>whnf);repeat(refine And.intro rfl ?_;(conv=>whnf)))
        refine ⟨(by unfold sliceAppend; simp only [ll]; omega), ?_⟩
        ((conv=>whnf);repeat(refine And.intro rfl ?_;(conv=>whnf)))
        (refine .inl ⟨by (unfold InR; rw [IntKind.wrap_i64]; omega), ?_⟩; ((conv=>whnf);repeat(refine And.intro rfl ?_;(conv=>whnf))))
        refine ⟨(m + 1, c + 1), ⟨by omega, by omega⟩, by dsimp only; omega, ?_⟩
        dsimp only
        rw [e1, e1']
        (refine leB_close 5 (by simp) rfl ?_ ?_ <;> (repeat' (first | exact trivial | exact rfl | exact DeepM.refl _ | exact DeepML.refl _ | exact DeepMLL.refl _ | refine And.intro ?_ ?_ | (simp [Under, UnderL, UnderLL, -List.map_take, -List.map_drop]; done))))
        · refine deepMLL_eq ?_
          rw [h3, hin0, List.append_nil]
          exact prows_snoc (by omega)
        · refine deepMLL_eq ?_
          rw [h3, hgs0, List.append_nil]
          exact i64s_snoc (by omega)
      · have h3 : ¬ l.length = 0 := by ((try simp only [oo, reduceCtorEq] at *) <;> omega)
        rw [if_neg h3] at e1 e1' e3
        (refine .inl ⟨by (unfold InR; rw [IntKind.wrap_i64]; omega), ?_⟩; ((conv=>whnf);repeat(refine And.intro rfl ?_;(conv=>whnf))))
        refine ⟨(m + 1, c), ⟨by omega, by omega⟩, by dsimp only; omega, ?_⟩
        dsimp only
        rw [e1, e1']
        (refine leB_close 5 (by simp) rfl ?_ ?_ <;> (repeat' (first | exact trivial | exact rfl | exact DeepM.refl _ | exact DeepML.refl _ | exact DeepMLL.refl _ | refine And.intro ?_ ?_ | (simp [Under, UnderL, UnderLL, -List.map_take, -List.map_drop]; done))))
  · have hm' : m = N.length := by have : ¬ m < M.length := by ((try simp only [oo, reduceCtorEq] at *) <;> omega)
                                  omega
    subst hm'
    subst ha
    rw [Nat.sub_zero]
    by_cases hA : atL N N.length ≤ 600
    · have hb : decide ((atL N N.length : Int) > 600) = false := decide_eq_false (by omega)
      rw [hb, if_pos hA]
      ((conv=>whnf);repeat(refine And.intro rfl ?_;(conv=>whnf)))
      have hNl := rnNext_len N
      have hLl := rnLab_len P.stepsL N
      have hFl := rnFair_len P.stepsL N
      have hol := ofTo_len N N.length
      have hgl := gsTo_len N N.length
      have hfz : List.drop 0 (List.take (atL N N.length) (prows (ofTo N N.length))) = prows (ofTo N N.length) := drop_take_all (by simp [ofTo_len])
      have hfg : List.drop 0 (List.take (atL N N.length) (i64s (gsTo N N.length))) = i64s (gsTo N N.length) := drop_take_all (by simp [i64s, gsTo_len])
      refine pwp_ghostB (leB_trans (leB_freeze (fun i => i == 3 || i == 4) (env' := [(14, .sc (.int .i64 0)), (13, .loc 5 0), (3, .loc 1 0), (4, .loc 2 0), (7, dsteps P.stepsL), (9, dpairs (ofTo N N.length)), (10, dints (gsTo N N.length))])
        (H' := [.row true P.cells, .row true (scells M N), .row true [.sc (.slice none 0 0), .sc (.slice none 0 0), .sc (.slice none 0 0), .sc (.slice none 0 0)], .vec false (atL N N.length) 2 (prows (ofTo N N.length)), .vec false (atL N N.length) 1 (i64s (gsTo N N.length)), .row true [.sc (.slice none 0 0), .sc (.slice none 0 0), .sc (.slice none 0 0), .sc (.slice none 0 0)]])
        ⟨.refl _, .refl _, .refl _, .refl _, .refl _, .own _ _ _ _ _ _ _ _ rfl rfl (deepMLL_eq hfz), .own _ _ _ _ _ _ _ _ rfl rfl (deepMLL_eq hfg), trivial⟩
        ⟨⟨.inl rfl, (fun h => by cases h), .refl _⟩, ⟨.inl rfl, (fun h => by cases h), .refl _⟩, ⟨.inl rfl, (fun h => by cases h), .refl _⟩, ⟨.inr ⟨rfl, rfl⟩, fun _ => rfl, rfl, rfl, .refl _⟩, ⟨.inr ⟨rfl, rfl⟩, fun _ => rfl, rfl, rfl, .refl _⟩, ⟨.inl rfl, (fun h => by cases h), .refl _⟩, trivial⟩)
        (leB_trans (leB_nilc 5 0 1 (by simp) rfl rfl) (leB_trans (leB_nilc 5 1 1 (by simp) rfl rfl) (leB_trans (leB_nilc 5 2 1 (by simp) rfl rfl) (leB_nilc 5 3 1 (by simp) rfl rfl))))) ?_
      generalize hAn : atL N N.length = A at *
      refine pwp_forH [3, 4, 7, 9, 10, 13] (fun ((i, c, s) : Nat × Nat × List Int) => [(14, .sc (.int .i64 i))])
        (fun (i, c, s) => [.row true P.cells, .row true (scells M N), .row true [.sc (.slice none 0 0), .sc (.slice none 0 0), .sc (.slice none 0 0), .sc (.slice none 0 0)], .vec false A 2 (prows (ofTo N N.length)), .vec false A 1 (i64s (gsTo N N.length)), .row true [.own 6 c 0 c, .own 7 i 0 i, .own 8 i 0 i, .own 9 0 0 0],
          .vec true c 1 (i64s s), .vec true i 1 (grows ((rnNext N).take i)), .vec true i 1 (u64s ((rnLab P.stepsL N).take i)), .vec true 0 1 (grows [])])
        (fun (i, c, s) => i ≤ A ∧ c = s.length ∧ c ≤ i ∧ s = pkTo (ofTo N N.length) 0 i) (fun (i, c, s) => A - i) (0, 0, []) ?_
      ((conv=>whnf);repeat(refine And.intro rfl ?_;(conv=>whnf)))
      refine ⟨⟨by omega, rfl, by omega, rfl⟩, by (repeat' (first | exact trivial | refine And.intro rfl ?_)), rfl, ?_⟩
      rintro ⟨i, c, s⟩ ⟨hi, hc, hci, hs⟩
      ((conv=>whnf);repeat(refine And.intro rfl ?_;(conv=>whnf)))
      (apply rd_sound; focus (repeat' constructor))
      ((conv=>whnf);repeat(refine And.intro rfl ?_;(conv=>whnf)))
      rw [prows_len, hol]
      (refine ifK_split (fun h2 => ?_) (fun h2 => ?_) <;> (rw [h2]; ((conv=>whnf);repeat(refine And.intro rfl ?_;(conv=>whnf)))))
      · have hi' : i < A := by ((try simp only [oo, reduceCtorEq] at *) <;> omega)
        obtain ⟨m, k, q1, q2, q3⟩ := of_split (N := N) (n := N.length) (i := i) (by omega)
        have hat := ofTo_at q2 N.length q1
        have hga := gsTo_at q2 N.length q1
        have hmk := st_mark q2
        rw [← q3] at hat hga
        have e1 := rnNext_take q1 q2
        have e2 := rnLab_take (L := P.stepsL) q1 q2
        rw [← q3] at e1 e2
        have eT : pkTo (ofTo N N.length) 0 (i + 1) = if ((ofTo N N.length).getD i (0, 0)).2 = 0 then pkTo (ofTo N N.length) 0 i ++ [(i : Int)] else pkTo (ofTo N N.length) 0 i := rfl
        have l1 : ((rnNext N).take i).length = i := by rw [List.length_take]; omega
        have l2 : ((rnLab P.stepsL N).take i).length = i := by rw [List.length_take]; omega
        have hgt : 0 ≤ (gsOf N m).getD k 0 ∧ (gsOf N m).getD k 0 < (N.length : Int) ∧ (((stOf N m).getD k (0, 0)).1 < 0 ∨ ((stOf N m).getD k (0, 0)).1.toNat < P.stepsL.length) := by
          by_cases hz : (N.getD m []).length = 0
          · have hk0 : k = 0 := by rw [many_eq, if_pos hz] at q2; omega
            subst hk0
            rw [(st_none hz).1, (st_none hz).2]
            exact ⟨by omega, by omega, .inl (by show (-1 : Int) < 0; decide)⟩
          · rw [(st_at hz q2).1, (st_at hz q2).2]
            rw [many_eq, if_neg hz] at q2
            have := hS.edgeAt q2
            exact ⟨by omega, by omega, .inr (by dsimp only; omega)⟩
        have hpk := pk_all (N := N) (n := N.length) (t := ((gsOf N m).getD k 0).toNat) (by omega)
        rw [hAn, show ((((gsOf N m).getD k 0).toNat : Nat) : Int) = (gsOf N m).getD k 0 by omega] at hpk
        have lab : ∀ x : EdgeD, ¬ x.1 < 0 → lab1 P.stepsL x.1 = 2 ^ (P.stepsL.getD x.1.toNat (0, 0, 0)).1.toNat := fun x hx => by unfold lab1; rw [if_neg hx]
        have lab' : ∀ x : EdgeD, x.1 < 0 → lab1 P.stepsL x.1 = 9223372036854775808 := fun x hx => by unfold lab1; rw [if_pos hx]
        refine pwp_ghostB (leB_nil 15 1 (by simp) rfl) ?_
        rw [hat, hmk, ← hs] at eT
        generalize (stOf N m).getD k (0, 0) = x at *
        generalize (gsOf N m).getD k 0 = g at *
        refine pwp_for [3, 4, 7, 9, 10, 13, 14] (fun ((k, c, l) : Nat × Nat × List Int) => [(15, .own 10 c 0 c), (16, .sc (.int .i64 k))]) (fun (k, c, l) => [(10, .vec true c 1 (i64s l))]) (fun (k, c, l) => k ≤ A ∧ c = l.length ∧ c ≤ k ∧ l = pkTo (ofTo N N.length) g k) (fun (k, c, l) => A - k) (0, 0, []) ?_
        ((conv=>whnf);repeat(refine And.intro rfl ?_;(conv=>whnf)))
        refine ⟨⟨by omega, rfl, by omega, rfl⟩, by (repeat' (first | exact trivial | refine And.intro rfl ?_)), rfl, ?_⟩
        rintro ⟨k', c', l⟩ ⟨hk, hc', hck, hl'⟩
        ((conv=>whnf);repeat(refine And.intro rfl ?_;(conv=>whnf)))
        (apply rd_sound; focus (repeat' constructor))
        ((conv=>whnf);repeat(refine And.intro rfl ?_;(conv=>whnf)))
        rw [prows_len, hol]
        (refine ifK_split (fun h3 => ?_) (fun h3 => ?_) <;> (rw [h3]; ((conv=>whnf);repeat(refine And.intro rfl ?_;(conv=>whnf)))))
        · have hk' : k' < A := by ((try simp only [oo, reduceCtorEq] at *) <;> omega)
          have eP : pkTo (ofTo N N.length) g (k' + 1) = if ((ofTo N N.length).getD k' (0, 0)).2 = g then pkTo (ofTo N N.length) g k' ++ [(k' : Int)] else pkTo (ofTo N N.length) g k' := rfl
          refine ⟨by omega, _, prows_at (l := ofTo N N.length) (k := k') (by omega) (by omega), ?_⟩
          ((conv=>whnf);repeat(refine And.intro rfl ?_;(conv=>whnf)))
          refine ⟨by omega, _, intsD_at (l := gsTo N N.length) (k := i) (by omega) (by omega), ?_⟩
          rw [hga]
          ((conv=>whnf);repeat(refine And.intro rfl ?_;(conv=>whnf)))
          generalize (ofTo N N.length).getD k' (0, 0) = y at eP
          (refine ifK_split (fun h4 => ?_) (fun h4 => ?_) <;> (rw [h4]; ((conv=>whnf);repeat(refine And.intro rfl ?_;(conv=>whnf)))))
          · have h4 : y.2 = g := by ((try simp only [oo, reduceCtorEq] at *) <;> omega)
            rw [if_pos h4, ← hl'] at eP
            refine ⟨(by unfold sliceAppend; simp only [ll]; omega), ?_⟩
            ((conv=>whnf);repeat(refine And.intro rfl ?_;(conv=>whnf)))
            (refine .inl ⟨by (unfold InR; rw [IntKind.wrap_i64]; omega), ?_⟩; ((conv=>whnf);repeat(refine And.intro rfl ?_;(conv=>whnf))))
            refine ⟨(k' + 1, c' + 1, l ++ [(k' : Int)]), ⟨by omega, by simp [hc'], by omega, eP.symm⟩, by dsimp only; omega, ?_⟩
            (refine leB_close 11 (by simp) rfl ?_ ?_ <;> (repeat' (first | exact trivial | exact rfl | exact DeepM.refl _ | exact DeepML.refl _ | exact DeepMLL.refl _ | refine And.intro ?_ ?_ | (simp [Under, UnderL, UnderLL, -List.map_take, -List.map_drop]; done))))
            exact deepMLL_eq (i64s_snoc hc')
          · have h4 : ¬ y.2 = g := by ((try simp only [oo, reduceCtorEq] at *) <;> omega)
            rw [if_neg h4, ← hl'] at eP
            (refine .inl ⟨by (unfold InR; rw [IntKind.wrap_i64]; omega), ?_⟩; ((conv=>whnf);repeat(refine And.intro rfl ?_;(conv=>whnf))))
            exact ⟨(k' + 1, c', l), ⟨by omega, hc', by omega, eP.symm⟩, by dsimp only; omega, leB_envH (by (repeat' (first | exact trivial | refine And.intro rfl ?_))) rfl⟩
        · have hk' : k' = A := by have : ¬ k' < A := by ((try simp only [oo, reduceCtorEq] at *) <;> omega)
                                  omega
          subst hk'
          rw [hpk] at hl'
          refine ⟨(by unfold sliceAppend; simp only [ll]; omega), ?_⟩
          ((conv=>whnf);repeat(refine And.intro rfl ?_;(conv=>whnf)))
          refine ⟨by omega, _, prows_at (l := ofTo N N.length) (k := i) (by omega) (by omega), ?_⟩
          rw [hat]
          ((conv=>whnf);repeat(refine And.intro rfl ?_;(conv=>whnf)))
          have hrow : ∀ {H : List AObj}, H[10]? = some (.vec true c' 1 (i64s l)) → DeepMLL (fromN 10) H (List.drop 0 (List.take i (grows (List.take i (rnNext N)))) ++ List.drop 0 (List.take 1 [[D.own 10 c' 0 c']])) (grows (List.take i (rnNext N)) ++ [[dints (allL N g.toNat)]]) := fun hH =>
            DeepMLL.append _ _ _ _ (deepMLL_eq (drop_take_all (by simp [grows]; omega))) (DeepMLL.cons _ _ _ _ (DeepML.cons _ _ _ _ (.own _ _ _ _ _ _ _ _ rfl hH (deepMLL_eq (by rw [hl', drop_take_all (by simp [i64s]; rw [← hl']; omega)]; rfl))) (DeepML.refl _)) (DeepMLL.refl _))
          have eg : grows (List.take i (rnNext N) ++ [allL N g.toNat]) = grows (List.take i (rnNext N)) ++ [[dints (allL N g.toNat)]] := by simp [grows]
          (refine ifK_split (fun h5 => ?_) (fun h5 => ?_) <;> (rw [h5]; ((conv=>whnf);repeat(refine And.intro rfl ?_;(conv=>whnf)))))
          · have h5 : ¬ x.1 < 0 := by ((try simp only [oo, reduceCtorEq] at *) <;> omega)
            rw [lab x h5] at e2
            refine ⟨by omega, _, prows_at (l := ofTo N N.length) (k := i) (by omega) (by omega), ?_⟩
            rw [hat]
            ((conv=>whnf);repeat(refine And.intro rfl ?_;(conv=>whnf)))
            have hx := hgt.2.2.resolve_left h5
            have hnd := hnode x.1.toNat hx
            refine ⟨by omega, _, step_atD (k := x.1.toNat) (by omega) hx, ?_⟩
            ((conv=>whnf);repeat(refine And.intro rfl ?_;(conv=>whnf)))
            generalize P.stepsL.getD x.1.toNat (0, 0, 0) = st at *
            refine ⟨by omega, ?_⟩
            rw [shl_bit' (k := st.1.toNat) (by omega) (by omega)]
            refine .inl ⟨inr_bit' (by omega), ?_⟩
            ((conv=>whnf);repeat(refine And.intro rfl ?_;(conv=>whnf)))
            refine ⟨(by unfold sliceAppend; simp only [ll]; omega), ?_⟩
            ((conv=>whnf);repeat(refine And.intro rfl ?_;(conv=>whnf)))
            refine ⟨by omega, _, prows_at (l := ofTo N N.length) (k := i) (by omega) (by omega), ?_⟩
            rw [hat]
            ((conv=>whnf);repeat(refine And.intro rfl ?_;(conv=>whnf)))
            (refine ifK_split (fun h6 => ?_) (fun h6 => ?_) <;> (rw [h6]; ((conv=>whnf);repeat(refine And.intro rfl ?_;(conv=>whnf)))))
            · have h6 : (m : Int) = 0 := by rw [← hmk]; ((try simp only [oo, reduceCtorEq] at *) <;> omega)
              rw [if_pos h6] at eT
              refine ⟨(by unfold sliceAppend; simp only [ll]; omega), ?_⟩
              ((conv=>whnf);repeat(refine And.intro rfl ?_;(conv=>whnf)))
              (refine .inl ⟨by (unfold InR; rw [IntKind.wrap_i64]; omega), ?_⟩; ((conv=>whnf);repeat(refine And.intro rfl ?_;(conv=>whnf))))
              refine ⟨(i + 1, c + 1, s ++ [(i : Int)]), ⟨by omega, by simp [hc], by omega, eT.symm⟩, by dsimp only; omega, ?_⟩
              dsimp only
              rw [e1, e2]
              (refine leB_close 10 (by simp) rfl ?_ ?_ <;> (repeat' (first | exact trivial | exact rfl | exact DeepM.refl _ | exact DeepML.refl _ | exact DeepMLL.refl _ | refine And.intro ?_ ?_ | (simp [Under, UnderL, UnderLL, -List.map_take, -List.map_drop]; done))))
              · exact deepMLL_eq (i64s_snoc hc)
              · rw [eg]; exact hrow rfl
              · exact deepMLL_eq (u64s_snoc l2.symm)
            · have h6 : ¬ (m : Int) = 0 := by rw [← hmk]; ((try simp only [oo, reduceCtorEq] at *) <;> omega)
              rw [if_neg h6] at eT
              (refine .inl ⟨by (unfold InR; rw [IntKind.wrap_i64]; omega), ?_⟩; ((conv=>whnf);repeat(refine And.intro rfl ?_;(conv=>whnf))))
              refine ⟨(i + 1, c, s), ⟨by omega, hc, by omega, eT.symm⟩, by dsimp only; omega, ?_⟩
              dsimp only
              rw [e1, e2]
              (refine leB_close 10 (by simp) rfl ?_ ?_ <;> (repeat' (first | exact trivial | exact rfl | exact DeepM.refl _ | exact DeepML.refl _ | exact DeepMLL.refl _ | refine And.intro ?_ ?_ | (simp [Under, UnderL, UnderLL, -List.map_take, -List.map_drop]; done))))
              · rw [eg]; exact hrow rfl
              · exact deepMLL_eq (u64s_snoc l2.symm)
          · have h5 : x.1 < 0 := by ((try simp only [oo, reduceCtorEq] at *) <;> omega)
            rw [lab' x h5] at e2
            refine ⟨(by unfold sliceAppend; simp only [ll]; omega), ?_⟩
            ((conv=>whnf);repeat(refine And.intro rfl ?_;(conv=>whnf)))
            refine ⟨by omega, _, prows_at (l := ofTo N N.length) (k := i) (by omega) (by omega), ?_⟩
            rw [hat]
            ((conv=>whnf);repeat(refine And.intro rfl ?_;(conv=>whnf)))
            (refine ifK_split (fun h6 => ?_) (fun h6 => ?_) <;> (rw [h6]; ((conv=>whnf);repeat(refine And.intro rfl ?_;(conv=>whnf)))))
            · have h6 : (m : Int) = 0 := by rw [← hmk]; ((try simp only [oo, reduceCtorEq] at *) <;> omega)
              rw [if_pos h6] at eT
              refine ⟨(by unfold sliceAppend; simp only [ll]; omega), ?_⟩
              ((conv=>whnf);repeat(refine And.intro rfl ?_;(conv=>whnf)))
              (refine .inl ⟨by (unfold InR; rw [IntKind.wrap_i64]; omega), ?_⟩; ((conv=>whnf);repeat(refine And.intro rfl ?_;(conv=>whnf))))
              refine ⟨(i + 1, c + 1, s ++ [(i : Int)]), ⟨by omega, by simp [hc], by omega, eT.symm⟩, by dsimp only; omega, ?_⟩
              dsimp only
              rw [e1, e2]
              (refine leB_close 10 (by simp) rfl ?_ ?_ <;> (repeat' (first | exact trivial | exact rfl | exact DeepM.refl _ | exact DeepML.refl _ | exact DeepMLL.refl _ | refine And.intro ?_ ?_ | (simp [Under, UnderL, UnderLL, -List.map_take, -List.map_drop]; done))))
              · exact deepMLL_eq (i64s_snoc hc)
              · rw [eg]; exact hrow rfl
              · exact deepMLL_eq (u64s_snoc l2.symm)
            · have h6 : ¬ (m : Int) = 0 := by rw [← hmk]; ((try simp only [oo, reduceCtorEq] at *) <;> omega)
              rw [if_neg h6] at eT
              (refine .inl ⟨by (unfold InR; rw [IntKind.wrap_i64]; omega), ?_⟩; ((conv=>whnf);repeat(refine And.intro rfl ?_;(conv=>whnf))))
              refine ⟨(i + 1, c, s), ⟨by omega, hc, by omega, eT.symm⟩, by dsimp only; omega, ?_⟩
              dsimp only
              rw [e1, e2]
              (refine leB_close 10 (by simp) rfl ?_ ?_ <;> (repeat' (first | exact trivial | exact rfl | exact DeepM.refl _ | exact DeepML.refl _ | exact DeepMLL.refl _ | refine And.intro ?_ ?_ | (simp [Under, UnderL, UnderLL, -List.map_take, -List.map_drop]; done))))
              · rw [eg]; exact hrow rfl
              · exact deepMLL_eq (u64s_snoc l2.symm)
      · have hi' : i = A := by have : ¬ i < A := by ((try simp only [oo, reduceCtorEq] at *) <;> omega)
                               omega
        subst hi'
        have hpk := pk_all (N := N) (n := N.length) (t := 0) (by omega)
        rw [hAn] at hpk
        rw [show pkTo (ofTo N N.length) 0 i = allL N 0 from hpk] at hs
        rw [List.take_of_length_le (by omega), List.take_of_length_le (by omega)]
        refine pwp_ghostB (leB_freeze (fun i => i == 10) (env' := [(18, .ipt [.sc (.int .i64 0)]), (13, .loc 5 0), (3, .loc 1 0), (4, .loc 2 0), (7, dsteps P.stepsL), (9, dpairs (ofTo N N.length))])
          (H' := [.row true P.cells, .row true (scells M N), .row true [.sc (.slice none 0 0), .sc (.slice none 0 0), .sc (.slice none 0 0), .sc (.slice none 0 0)], .vec false i 2 (prows (ofTo N N.length)), .vec false i 1 (i64s (gsTo N N.length)), .row true [.own 6 c 0 c, .own 7 i 0 i, .own 8 i 0 i, .own 9 0 0 0],
            .vec true c 1 (i64s s), .vec true i 1 (grows (rnNext N)), .vec true i 1 (u64s (rnLab P.stepsL N)), .vec true 0 1 (grows []), .row false [.sc (.int .i64 0)]]) ?_ ?_) ?_
        · exact ⟨.loc _ _ _ _ _ rfl rfl (.refl _), .refl _, .refl _, .refl _, .refl _, .refl _, trivial⟩
        · exact ⟨⟨.inl rfl, (fun h => by cases h), .refl _⟩, ⟨.inl rfl, (fun h => by cases h), .refl _⟩, ⟨.inl rfl, (fun h => by cases h), .refl _⟩, ⟨.inl rfl, (fun h => by cases h), rfl, rfl, .refl _⟩, ⟨.inl rfl, (fun h => by cases h), rfl, rfl, .refl _⟩, ⟨.inl rfl, (fun h => by cases h), .refl _⟩, ⟨.inl rfl, (fun h => by cases h), rfl, rfl, .refl _⟩, ⟨.inl rfl, (fun h => by cases h), rfl, rfl, .refl _⟩, ⟨.inl rfl, (fun h => by cases h), rfl, rfl, .refl _⟩, ⟨.inl rfl, (fun h => by cases h), rfl, rfl, .refl _⟩, ⟨.inr ⟨rfl, rfl⟩, fun _ => rfl, .refl _⟩, trivial⟩
        refine pwp_forH [3, 4, 7, 9, 13] (fun k : Nat => [(18, .ipt [.sc (.int .i64 k)])])
          (fun k => [.row true P.cells, .row true (scells M N), .row true [.sc (.slice none 0 0), .sc (.slice none 0 0), .sc (.slice none 0 0), .sc (.slice none 0 0)], .vec false i 2 (prows (ofTo N N.length)), .vec false i 1 (i64s (gsTo N N.length)), .row true [.own 6 c 0 c, .own 7 i 0 i, .own 8 i 0 i, .own 9 k 0 k],
            .vec true c 1 (i64s s), .vec true i 1 (grows (rnNext N)), .vec true i 1 (u64s (rnLab P.stepsL N)), .vec true k 1 (grows ((rnFair P.stepsL N).take k)), .row false [.sc (.int .i64 0)]])
          (fun k => k ≤ P.stepsL.length) (fun k => P.stepsL.length - k) 0 ?_
        ((conv=>whnf);repeat(refine And.intro rfl ?_;(conv=>whnf)))
        refine ⟨by omega, by (repeat' (first | exact trivial | refine And.intro rfl ?_)), rfl, ?_⟩
        rintro k hk
        ((conv=>whnf);repeat(refine And.intro rfl ?_;(conv=>whnf)))
        (apply rd_sound; focus (repeat' constructor))
        ((conv=>whnf);repeat(refine And.intro rfl ?_;(conv=>whnf)))
        rw [srows_len]
        (refine ifK_split (fun h3 => ?_) (fun h3 => ?_) <;> (rw [h3]; ((conv=>whnf);repeat(refine And.intro rfl ?_;(conv=>whnf)))))
        · have hk' : k < P.stepsL.length := by ((try simp only [oo, reduceCtorEq] at *) <;> omega)
          have e1 := rnFair_take (N := N) hk'
          rw [hAn] at e1
          have l1 : ((rnFair P.stepsL N).take k).length = k := by rw [List.length_take]; omega
          refine pwp_ghostB (leB_nil 19 1 (by simp) rfl) ?_
          refine pwp_for [3, 4, 7, 9, 13, 18] (fun ((k', c, l) : Nat × Nat × List Int) => [(19, .own 11 c 0 c), (20, .sc (.int .i64 k'))]) (fun (k', c, l) => [(11, .vec true c 1 (i64s l))]) (fun (k', c, l) => k' ≤ i ∧ c = l.length ∧ c ≤ k' ∧ l = fairTo N (ofTo N N.length) k k') (fun (k', c, l) => i - k') (0, 0, []) ?_
          ((conv=>whnf);repeat(refine And.intro rfl ?_;(conv=>whnf)))
          refine ⟨⟨by omega, rfl, by omega, rfl⟩, by (repeat' (first | exact trivial | refine And.intro rfl ?_)), rfl, ?_⟩
          rintro ⟨k', c', l⟩ ⟨hk1, hc', hck, hl'⟩
          ((conv=>whnf);repeat(refine And.intro rfl ?_;(conv=>whnf)))
          (apply rd_sound; focus (repeat' constructor))
          ((conv=>whnf);repeat(refine And.intro rfl ?_;(conv=>whnf)))
          rw [prows_len, hol]
          (refine ifK_split (fun h4 => ?_) (fun h4 => ?_) <;> (rw [h4]; ((conv=>whnf);repeat(refine And.intro rfl ?_;(conv=>whnf)))))
          · have hk2 : k' < i := by ((try simp only [oo, reduceCtorEq] at *) <;> omega)
            obtain ⟨m, j, q1, q2, q3⟩ := of_split (N := N) (n := N.length) (i := k') (by omega)
            have hat := ofTo_at q2 N.length q1
            have hmk := st_mark q2
            rw [← q3] at hat
            have eT : fairTo N (ofTo N N.length) k (k' + 1) = if canB N ((ofTo N N.length).getD k' (0, 0)).2.toNat k = false ∨ ((ofTo N N.length).getD k' (0, 0)).1 = k then fairTo N (ofTo N N.length) k k' ++ [(k' : Int)] else fairTo N (ofTo N N.length) k k' := rfl
            rw [hat, hmk, Int.toNat_natCast, ← hl'] at eT
            generalize (stOf N m).getD j (0, 0) = x at *
            have lx := hS.rowAt m
            have hCF := containsF_edge (N.getD m []) (by omega) (fun y => y.1 == (k : Int)) 44 [.ipt [.sc (.int .i64 k)]] (by simp [PureL, Pure]) fun a _ => ref_Runs1 a k
            change PCall Try.prog _ _ (.sc (.bool (canB N m k))) at hCF
            refine ⟨by omega, _, prows_at (l := ofTo N N.length) (k := k') (by omega) (by omega), ?_⟩
            rw [hat]
            ((conv=>whnf);repeat(refine And.intro rfl ?_;(conv=>whnf)))
            refine ⟨by omega, _, erowD_at (L := N) (k := m) (by omega) q1, ?_⟩
            ((conv=>whnf);repeat(refine And.intro rfl ?_;(conv=>whnf)))
            (refine .inl ⟨_, hCF, ?_⟩; ((conv=>whnf);repeat(refine And.intro rfl ?_;(conv=>whnf))))
            cases hcan : canB N m k
            · rw [hcan, if_pos (.inl rfl)] at eT
              ((conv=>whnf);repeat(refine And.intro rfl ?_;(conv=>whnf)))
              refine ⟨(by unfold sliceAppend; simp only [ll]; omega), ?_⟩
              ((conv=>whnf);repeat(refine And.intro rfl ?_;(conv=>whnf)))
              (refine .inl ⟨by (unfold InR; rw [IntKind.wrap_i64]; omega), ?_⟩; ((conv=>whnf);repeat(refine And.intro rfl ?_;(conv=>whnf))))
              refine ⟨(k' + 1, c' + 1, l ++ [(k' : Int)]), ⟨by omega, by simp [hc'], by omega, eT.symm⟩, by dsimp only; omega, ?_⟩
              (refine leB_close 12 (by simp) rfl ?_ ?_ <;> (repeat' (first | exact trivial | exact rfl | exact DeepM.refl _ | exact DeepML.refl _ | exact DeepMLL.refl _ | refine And.intro ?_ ?_ | (simp [Under, UnderL, UnderLL, -List.map_take, -List.map_drop]; done))))
              exact deepMLL_eq (i64s_snoc hc')
            · ((conv=>whnf);repeat(refine And.intro rfl ?_;(conv=>whnf)))
              refine ⟨by omega, _, prows_at (l := ofTo N N.length) (k := k') (by omega) (by omega), ?_⟩
              rw [hat]
              ((conv=>whnf);repeat(refine And.intro rfl ?_;(conv=>whnf)))
              (refine ifK_split (fun h7 => ?_) (fun h7 => ?_) <;> (rw [h7]; ((conv=>whnf);repeat(refine And.intro rfl ?_;(conv=>whnf)))))
              · have h7 : x.1 = k := by ((try simp only [oo, reduceCtorEq] at *) <;> omega)
                rw [if_pos (.inr h7)] at eT
                refine ⟨(by unfold sliceAppend; simp only [ll]; omega), ?_⟩
                ((conv=>whnf);repeat(refine And.intro rfl ?_;(conv=>whnf)))
                (refine .inl ⟨by (unfold InR; rw [IntKind.wrap_i64]; omega), ?_⟩; ((conv=>whnf);repeat(refine And.intro rfl ?_;(conv=>whnf))))
                refine ⟨(k' + 1, c' + 1, l ++ [(k' : Int)]), ⟨by omega, by simp [hc'], by omega, eT.symm⟩, by dsimp only; omega, ?_⟩
                (refine leB_close 12 (by simp) rfl ?_ ?_ <;> (repeat' (first | exact trivial | exact rfl | exact DeepM.refl _ | exact DeepML.refl _ | exact DeepMLL.refl _ | refine And.intro ?_ ?_ | (simp [Under, UnderL, UnderLL, -List.map_take, -List.map_drop]; done))))
                exact deepMLL_eq (i64s_snoc hc')
              · have h7 : ¬ x.1 = k := by ((try simp only [oo, reduceCtorEq] at *) <;> omega)
                rw [hcan, if_neg (fun q => q.elim (fun q => by cases q) h7)] at eT
                (refine .inl ⟨by (unfold InR; rw [IntKind.wrap_i64]; omega), ?_⟩; ((conv=>whnf);repeat(refine And.intro rfl ?_;(conv=>whnf))))
                exact ⟨(k' + 1, c', l), ⟨by omega, hc', by omega, eT.symm⟩, by dsimp only; omega, leB_envH (by (repeat' (first | exact trivial | refine And.intro rfl ?_))) rfl⟩
          · have hk2 : k' = i := by have : ¬ k' < i := by ((try simp only [oo, reduceCtorEq] at *) <;> omega)
                                    omega
            subst hk2
            rw [hAn] at *
            refine ⟨(by unfold sliceAppend; simp only [ll]; omega), ?_⟩
            ((conv=>whnf);repeat(refine And.intro rfl ?_;(conv=>whnf)))
            (refine .inl ⟨by (unfold InR; rw [IntKind.wrap_i64]; omega), ?_⟩; ((conv=>whnf);repeat(refine And.intro rfl ?_;(conv=>whnf))))
            refine ⟨k + 1, by omega, by dsimp only; omega, ?_⟩
            dsimp only
            rw [e1]
            (refine leB_close 11 (by simp) rfl ?_ ?_ <;> (repeat' (first | exact trivial | exact rfl | exact DeepM.refl _ | exact DeepML.refl _ | exact DeepMLL.refl _ | refine And.intro ?_ ?_ | (simp [Under, UnderL, UnderLL, -List.map_take, -List.map_drop]; done))))
            · exact .loc _ _ _ _ _ rfl rfl (.refl _)
            · have hll : l.length ≤ c' := by omega
              rw [show grows (List.take k (rnFair P.stepsL N) ++ [fairTo N (ofTo N N.length) (k : Int) k']) = grows (List.take k (rnFair P.stepsL N)) ++ [[dints (fairTo N (ofTo N N.length) (k : Int) k')]] from by simp [grows], ← hl']
              exact DeepMLL.append _ _ _ _ (deepMLL_eq (drop_take_all (by simp [grows]; omega))) (DeepMLL.cons _ _ _ _ (DeepML.cons _ _ _ _ (.own _ _ _ _ _ _ _ _ rfl rfl (deepMLL_eq (drop_take_all (by simpa [i64s] using hll)))) (DeepML.refl _)) (DeepMLL.refl _))
        · have hk' : k = P.stepsL.length := by have : ¬ k < P.stepsL.length := by ((try simp only [oo, reduceCtorEq] at *) <;> omega)
                                               omega
          subst hk'
          rw [List.take_of_length_le (by omega)]
          refine .tup _ _ (.cons _ _ _ _ (.agg _ _ (.cons _ _ _ _ (.own _ _ _ _ _ _ _ _ rfl ?_) (.cons _ _ _ _ (.own _ _ _ _ _ _ _ _ rfl ?_) (.cons _ _ _ _ (.own _ _ _ _ _ _ _ _ rfl ?_) (.cons _ _ _ _ (.own _ _ _ _ _ _ _ _ rfl ?_) .nil))))) (.cons _ _ _ _ (.refl _) (.cons _ _ _ _ (.refl _) .nil)))
          · rw [drop_take_all (by simp [i64s]; omega), hs]; exact deepLL_refl _
          · rw [drop_take_all (by simp [grows, hNl])]; exact deepLL_refl _
          · rw [drop_take_all (by simp [u64s, hLl])]; exact deepLL_refl _
          · rw [drop_take_all (by simp [grows, hFl])]; exact deepLL_refl _
    · have hb : decide ((atL N N.length : Int) > 600) = true := decide_eq_true (by omega)
      rw [hb, if_neg hA]
      ((conv=>whnf);repeat(refine And.intro rfl ?_;(conv=>whnf)))
      exact .tup _ _ (.cons _ _ _ _ (.agg _ _ (.cons _ _ _ _ (.none _) (.cons _ _ _ _ (.none _) (.cons _ _ _ _ (.none _) (.cons _ _ _ _ (.none _) .nil))))) (.cons _ _ _ _ (.none _) (.cons _ _ _ _ (.refl _) .nil)))
end Go.Proofs.Ytjnfahdolkgnoaa
