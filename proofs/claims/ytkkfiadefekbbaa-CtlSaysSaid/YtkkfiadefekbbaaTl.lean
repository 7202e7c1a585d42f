/-
  The writer of formulas of one way, over deep values. No statement is proved here.
-/
import Derived.Test.YtkkfiadefekbbaaTx
import Derived.Test.YtkkfiadefekbbaaCk
namespace Go.Proofs.Ytkkfiadefekbbaa
open Go.RowKit
set_option linter.unusedSimpArgs false
theorem cat3 (a b : ByteArray) (c : UInt8) : a ++ ⟨#[32]⟩ ++ ⟨#[c]⟩ ++ ⟨#[32]⟩ ++ b = a ++ ⟨#[32, c, 32]⟩ ++ b := by
  rw [ByteArray.append_assoc (a := a), ByteArray.append_assoc (a := a)]
  rfl
theorem sizes_mem : ∀ {ts : List Tree} {t : Tree}, t ∈ ts → t.size ≤ Tree.sizes ts
  | a :: r, t, h => by
    simp only [Tree.sizes]
    rcases List.mem_cons.1 h with rfl | h
    · omega
    · have := sizes_mem h; omega
theorem size_kid {t : Tree} {j : Nat} (hj : j < t.width) : (t.kid j).size < t.size := by
  have h : t.kid j ∈ t.kids := by rw [Tree.kid_get hj]; exact List.getElem_mem _
  have := sizes_mem h
  cases t
  simp only [Tree.size, Tree.kids] at this ⊢
  omega
def wrow (names : List ByteArray) (bad : Bool) : List D := [dstrs names, .sc (.bool bad)]
theorem pure_wrow (names : List ByteArray) (bad : Bool) : PureL (wrow names bad) := by simp [wrow, PureL, Pure, pure_dstrs]
def c155 : PC := .seq (.ops [⟨(some 6), .move (.const (.bool false)), none, 0⟩] false) (.seq (.seq (.ops [⟨(some 7), .move (.tmp 2), none, 0⟩] false) (.block 0 (.seq (.ops [⟨(some 9), .bin .eql (.tmp 7) (.const (.int .i64 5)), none, 0⟩,
    ⟨(some 8), .move (.tmp 9), none, 0⟩] false) (.cond (.tmp 8) (.seq (.ops [⟨(some 10), .move (.tmp 0), none, 0⟩,
    ⟨(some 11), .bin .eql (.tmp 10) (.const (.int .i64 6)), none, 0⟩,
    ⟨(some 12), .move (.tmp 11), none, 0⟩,
    ⟨(some 13), .move (.tmp 0), (some (12, false)), 0⟩,
    ⟨(some 14), .bin .eql (.tmp 13) (.const (.int .i64 5)), (some (12, false)), 0⟩,
    ⟨(some 15), .move (.tmp 14), (some (12, false)), 0⟩,
    ⟨(some 16), .move (.tmp 1), (some (15, true)), 0⟩,
    ⟨(some 17), .bin .eql (.tmp 16) (.const (.int .i64 0)), (some (15, true)), 0⟩,
    ⟨(some 18), .pick (.tmp 15) (.tmp 17) (.const (.bool false)), (some (12, false)), 0⟩,
    ⟨(some 19), .pick (.tmp 12) (.const (.bool true)) (.tmp 18), none, 0⟩,
    ⟨(some 6), .move (.tmp 19), none, 0⟩] false) (.ret)) (.seq (.ops [⟨(some 21), .bin .eql (.tmp 7) (.const (.int .i64 6)), none, 0⟩,
    ⟨(some 20), .move (.tmp 21), none, 0⟩] false) (.cond (.tmp 20) (.seq (.ops [⟨(some 22), .move (.tmp 0), none, 0⟩,
    ⟨(some 23), .bin .eql (.tmp 22) (.const (.int .i64 6)), none, 0⟩,
    ⟨(some 24), .move (.tmp 23), none, 0⟩,
    ⟨(some 25), .move (.tmp 1), (some (24, true)), 0⟩,
    ⟨(some 26), .bin .eql (.tmp 25) (.const (.int .i64 0)), (some (24, true)), 0⟩,
    ⟨(some 27), .pick (.tmp 24) (.tmp 26) (.const (.bool false)), none, 0⟩,
    ⟨(some 6), .move (.tmp 27), none, 0⟩] false) (.ret)) (.seq (.seq (.ops [⟨(some 29), .bin .eql (.tmp 7) (.const (.int .i64 8)), none, 0⟩,
    ⟨(some 28), .move (.tmp 29), none, 0⟩] false) (.cond (.tmp 28) (.skip) (.ops [⟨(some 30), .bin .eql (.tmp 7) (.const (.int .i64 9)), none, 0⟩,
    ⟨(some 28), .move (.tmp 30), none, 0⟩] false))) (.cond (.tmp 28) (.seq (.ops [⟨(some 31), .move (.tmp 0), none, 0⟩,
    ⟨(some 32), .move (.tmp 2), none, 0⟩,
    ⟨(some 33), .bin .eql (.tmp 31) (.tmp 32), none, 0⟩,
    ⟨(some 34), .move (.tmp 33), none, 0⟩,
    ⟨(some 35), .move (.tmp 1), (some (34, true)), 0⟩,
    ⟨(some 36), .bin .eql (.tmp 35) (.const (.int .i64 1)), (some (34, true)), 0⟩,
    ⟨(some 37), .pick (.tmp 34) (.tmp 36) (.const (.bool false)), none, 0⟩,
    ⟨(some 6), .move (.tmp 37), none, 0⟩] false) (.ret)) (.skip))))))))) (.seq (.ops [⟨(some 6), .move (.const (.bool true)), none, 0⟩] false) (.ret)))
set_option maxRecDepth 100000 in
theorem c155_ok : FunOK Try.prog 155 38 [.tmp 6] c155 := ⟨⟨Try.f155, Try.func155, rfl, by kernel_rfl, rfl, by kernel_rfl⟩⟩
def c127 : PC := .seq (.ops [⟨(some 4), .box (.tmp 1), none, 0⟩,
    ⟨(some 6), .move (.const (.string ⟨#[]⟩)), none, 0⟩] false) (.seq (.ops [⟨(some 8), .move (.tmp 0), none, 0⟩,
    ⟨(some 9), .faddr 2 (.tmp 4), none, 0⟩,
    ⟨(some 10), .load1 (.tmp 9), none, 0⟩,
    ⟨(some 11), .move (.tmp 2), none, 0⟩,
    ⟨(some 12), .iaddr 3 (.tmp 10) (.tmp 11), none, 0⟩,
    ⟨(some 13), .loadA 3 (.tmp 12), none, 0⟩,
    ⟨(some 14), .call 78 [(.tmp 8), (.tmp 13)], none, 0⟩,
    ⟨(some 7), .move (.tmp 14), none, 0⟩] false) (.seq (.seq (.ops [⟨(some 15), .faddr 0 (.tmp 4), none, 0⟩,
    ⟨(some 16), .load1 (.tmp 15), none, 1⟩,
    ⟨(some 17), .move (.tmp 2), none, 0⟩,
    ⟨(some 18), .faddr 2 (.tmp 4), none, 0⟩,
    ⟨(some 19), .load1 (.tmp 18), none, 8⟩,
    ⟨(some 20), .move (.tmp 2), none, 0⟩,
    ⟨(some 21), .iaddr 3 (.tmp 19) (.tmp 20), none, 56⟩,
    ⟨(some 22), .faddr 0 (.tmp 21), none, 120⟩,
    ⟨(some 23), .load1 (.tmp 22), none, 248⟩,
    ⟨(some 24), .call 155 [(.tmp 16), (.tmp 17), (.tmp 23)], none, 511⟩] true) (.cond (.tmp 24) (.seq (.ops [⟨(some 25), .move (.tmp 7), none, 0⟩,
    ⟨(some 6), .move (.tmp 25), none, 0⟩] false) (.ret)) (.skip))) (.seq (.ops [⟨(some 26), .move (.tmp 7), none, 0⟩,
    ⟨(some 27), .bin .add (.const (.string ⟨#[40]⟩)) (.tmp 26), none, 0⟩,
    ⟨(some 28), .bin .add (.tmp 27) (.const (.string ⟨#[41]⟩)), none, 0⟩,
    ⟨(some 6), .move (.tmp 28), none, 0⟩] false) (.ret))))
set_option maxRecDepth 100000 in
theorem c127_ok : FunOK Try.prog 127 29 [.tmp 6] c127 := ⟨⟨Try.f127, Try.func127, rfl, by kernel_rfl, rfl, by kernel_rfl⟩⟩
def c78 : PC := .seq (.ops [⟨(some 3), .box (.tmp 1), none, 0⟩,
    ⟨(some 4), .move (.const (.string ⟨#[]⟩)), none, 0⟩] false) (.seq (.seq (.ops [⟨(some 7), .faddr 0 (.tmp 3), none, 0⟩,
    ⟨(some 8), .load1 (.tmp 7), none, 0⟩] false) (.block 0 (.seq (.ops [⟨(some 10), .bin .eql (.tmp 8) (.const (.int .i64 1)), none, 0⟩,
    ⟨(some 9), .move (.tmp 10), none, 0⟩] false) (.cond (.tmp 9) (.seq (.ops [⟨(some 4), .move (.const (.string ⟨#[116, 114, 117, 101]⟩)), none, 0⟩] false) (.ret)) (.seq (.ops [⟨(some 12), .bin .eql (.tmp 8) (.const (.int .i64 2)), none, 0⟩,
    ⟨(some 11), .move (.tmp 12), none, 0⟩] false) (.cond (.tmp 11) (.seq (.ops [⟨(some 4), .move (.const (.string ⟨#[102, 97, 108, 115, 101]⟩)), none, 0⟩] false) (.ret)) (.seq (.ops [⟨(some 14), .bin .eql (.tmp 8) (.const (.int .i64 3)), none, 0⟩,
    ⟨(some 13), .move (.tmp 14), none, 0⟩] false) (.cond (.tmp 13) (.seq (.ops [⟨(some 15), .faddr 1 (.tmp 3), none, 0⟩,
    ⟨(some 16), .load1 (.tmp 15), none, 1⟩,
    ⟨(some 17), .move (.tmp 0), none, 0⟩,
    ⟨(some 18), .nilchk (.tmp 17), none, 4⟩,
    ⟨(some 19), .faddr 0 (.tmp 18), none, 12⟩,
    ⟨(some 20), .load1 (.tmp 19), none, 28⟩,
    ⟨(some 21), .call 126 [(.tmp 16), (.tmp 20)], none, 63⟩,
    ⟨(some 5), .move (.tmp 21), none, 127⟩] true) (.seq (.ops [⟨(some 22), .move (.tmp 0), none, 0⟩,
    ⟨(some 23), .move (.tmp 0), none, 0⟩,
    ⟨(some 24), .nilchk (.tmp 23), none, 0⟩,
    ⟨(some 25), .faddr 1 (.tmp 24), none, 0⟩,
    ⟨(some 26), .load1 (.tmp 25), none, 0⟩,
    ⟨(some 27), .move (.tmp 26), none, 0⟩,
    ⟨(some 28), .move (.tmp 5), (some (27, false)), 0⟩,
    ⟨(some 29), .bin .eql (.tmp 28) (.const (.string ⟨#[]⟩)), (some (27, false)), 0⟩,
    ⟨(some 30), .pick (.tmp 27) (.const (.bool true)) (.tmp 29), none, 0⟩,
    ⟨(some 31), .nilchk (.tmp 22), none, 0⟩,
    ⟨(some 32), .faddr 1 (.tmp 31), none, 0⟩,
    ⟨none, .store 1 (.tmp 32) (.tmp 30), none, 0⟩] false) (.seq (.ops [⟨(some 33), .move (.tmp 5), none, 0⟩,
    ⟨(some 4), .move (.tmp 33), none, 0⟩] false) (.ret)))) (.seq (.ops [⟨(some 35), .bin .eql (.tmp 8) (.const (.int .i64 4)), none, 0⟩,
    ⟨(some 34), .move (.tmp 35), none, 0⟩] false) (.cond (.tmp 34) (.seq (.ops [⟨(some 36), .move (.tmp 0), none, 0⟩,
    ⟨(some 37), .loadA 3 (.tmp 3), none, 0⟩,
    ⟨(some 38), .call 127 [(.tmp 36), (.tmp 37), (.const (.int .i64 0))], none, 0⟩,
    ⟨(some 39), .bin .add (.const (.string ⟨#[33]⟩)) (.tmp 38), none, 0⟩,
    ⟨(some 4), .move (.tmp 39), none, 0⟩] false) (.ret)) (.seq (.ops [⟨(some 41), .bin .eql (.tmp 8) (.const (.int .i64 7)), none, 0⟩,
    ⟨(some 40), .move (.tmp 41), none, 0⟩] false) (.cond (.tmp 40) (.seq (.ops [⟨(some 42), .move (.tmp 0), none, 0⟩,
    ⟨(some 43), .loadA 3 (.tmp 3), none, 0⟩,
    ⟨(some 44), .call 127 [(.tmp 42), (.tmp 43), (.const (.int .i64 0))], none, 0⟩,
    ⟨(some 45), .bin .add (.const (.string ⟨#[88, 32]⟩)) (.tmp 44), none, 0⟩,
    ⟨(some 4), .move (.tmp 45), none, 0⟩] false) (.ret)) (.seq (.ops [⟨(some 47), .bin .eql (.tmp 8) (.const (.int .i64 10)), none, 0⟩,
    ⟨(some 46), .move (.tmp 47), none, 0⟩] false) (.cond (.tmp 46) (.seq (.ops [⟨(some 48), .move (.tmp 0), none, 0⟩,
    ⟨(some 49), .loadA 3 (.tmp 3), none, 0⟩,
    ⟨(some 50), .call 127 [(.tmp 48), (.tmp 49), (.const (.int .i64 0))], none, 0⟩,
    ⟨(some 51), .bin .add (.const (.string ⟨#[70, 32]⟩)) (.tmp 50), none, 0⟩,
    ⟨(some 4), .move (.tmp 51), none, 0⟩] false) (.ret)) (.seq (.ops [⟨(some 53), .bin .eql (.tmp 8) (.const (.int .i64 11)), none, 0⟩,
    ⟨(some 52), .move (.tmp 53), none, 0⟩] false) (.cond (.tmp 52) (.seq (.ops [⟨(some 54), .move (.tmp 0), none, 0⟩,
    ⟨(some 55), .loadA 3 (.tmp 3), none, 0⟩,
    ⟨(some 56), .call 127 [(.tmp 54), (.tmp 55), (.const (.int .i64 0))], none, 0⟩,
    ⟨(some 57), .bin .add (.const (.string ⟨#[71, 32]⟩)) (.tmp 56), none, 0⟩,
    ⟨(some 4), .move (.tmp 57), none, 0⟩] false) (.ret)) (.skip))))))))))))))))) (.seq (.ops [⟨(some 58), .build [(.string ⟨#[]⟩), (.string ⟨#[]⟩), (.string ⟨#[]⟩), (.string ⟨#[]⟩), (.string ⟨#[]⟩), (.string ⟨#[]⟩), (.string ⟨#[]⟩), (.string ⟨#[]⟩), (.string ⟨#[]⟩), (.string ⟨#[]⟩)] [(5, 1, (.const (.string ⟨#[38]⟩))), (6, 1, (.const (.string ⟨#[47]⟩))), (8, 1, (.const (.string ⟨#[85]⟩))), (9, 1, (.const (.string ⟨#[82]⟩)))], none, 0⟩,
    ⟨(some 59), .faddr 0 (.tmp 3), none, 0⟩,
    ⟨(some 60), .load1 (.tmp 59), none, 0⟩,
    ⟨(some 61), .aidx 10 1 false (.tmp 58) (.tmp 60), none, 0⟩,
    ⟨(some 6), .move (.tmp 61), none, 0⟩] false) (.seq (.ops [⟨(some 62), .move (.tmp 0), none, 0⟩,
    ⟨(some 63), .loadA 3 (.tmp 3), none, 0⟩,
    ⟨(some 64), .call 127 [(.tmp 62), (.tmp 63), (.const (.int .i64 0))], none, 3⟩,
    ⟨(some 65), .bin .add (.tmp 64) (.const (.string ⟨#[32]⟩)), none, 7⟩,
    ⟨(some 66), .move (.tmp 6), none, 0⟩,
    ⟨(some 67), .bin .add (.tmp 65) (.tmp 66), none, 31⟩,
    ⟨(some 68), .bin .add (.tmp 67) (.const (.string ⟨#[32]⟩)), none, 63⟩,
    ⟨(some 69), .move (.tmp 0), none, 0⟩,
    ⟨(some 70), .loadA 3 (.tmp 3), none, 0⟩,
    ⟨(some 71), .call 127 [(.tmp 69), (.tmp 70), (.const (.int .i64 1))], none, 391⟩,
    ⟨(some 72), .bin .add (.tmp 68) (.tmp 71), none, 1023⟩,
    ⟨(some 4), .move (.tmp 72), none, 2047⟩] true) (.ret))))
set_option maxRecDepth 100000 in
theorem c78_ok : FunOK Try.prog 78 73 [.tmp 4] c78 := ⟨⟨Try.f78, Try.func78, rfl, by kernel_rfl, rfl, by kernel_rfl⟩⟩
theorem ltl_bare (k i c : Int) : PCall Try.prog 155 [.sc (.int .i64 k), .sc (.int .i64 i), .sc (.int .i64 c)] (.sc (.bool (bareL k i c))) := by
  refine pcall_intro c155_ok (by simp) (by simp [PureL, Pure]) ?_ (by simp [Pure])
  (apply red_sound; focus (repeat' (first | exact Red.skip | exact Red.ret | exact RedO.nil | exact RedD.nil | exact Red.exit _ | exact Red.loop _ | exact Red.stop _ | apply Red.ops | apply Red.draw | apply Red.seq | apply Red.cond | apply Red.block | apply RedO.cons | apply RedD.cons | exact (0 : Nat))))
  ((conv => whnf); repeat (refine And.intro rfl ?_; (conv => whnf)))
  repeat' (first
    | (first | (refine ifK_t ‹_› ?_; ((conv => whnf); repeat (refine And.intro rfl ?_; (conv => whnf)))) | (refine ifK_f ‹_› ?_; ((conv => whnf); repeat (refine And.intro rfl ?_; (conv => whnf)))) | (refine ifK_split (fun h => ?_) (fun h => ?_) <;> (rw [h]; ((conv => whnf); repeat (refine And.intro rfl ?_; (conv => whnf))))))
    | exact deep_eq (congrArg (fun b => D.sc (.bool b)) (by unfold bareL; simp_all)))
theorem ltl_kid (names : List ByteArray) (t : Tree) (j : Nat) (hj : j < t.width) (hsz : (txtL names (t.kid j)).size ≤ 1000000) (bad bad' : Bool)
    (hT : ACall Try.prog 78 ([] ++ .loc 0 0 :: [dtree (t.kid j)]) [.row true (wrow names bad)] (.sc (.string (txtL names (t.kid j)))) [.row true (wrow names bad')]) :
    ACall Try.prog 127 ([] ++ .loc 0 0 :: [dtree t, .sc (.int .i64 j)]) [.row true (wrow names bad)] (.sc (.string (kidSL names t j))) [.row true (wrow names bad')] := by
  refine acall_intro c127_ok (by simp) (by simp) ?_ (by simp [Under]) (by simp [AObj.under, underL_pure _ (pure_wrow _ _)])
  (apply red_sound; focus (repeat' (first | exact Red.skip | exact Red.ret | exact RedO.nil | exact RedD.nil | exact Red.exit _ | exact Red.loop _ | exact Red.stop _ | apply Red.ops | apply Red.draw | apply Red.seq | apply Red.cond | apply Red.block | apply RedO.cons | apply RedD.cons | exact (0 : Nat))))
  ((conv => whnf); repeat (refine And.intro rfl ?_; (conv => whnf)))
  refine ⟨by omega, _, kid_at hj, ?_⟩
  ((conv => whnf); repeat (refine And.intro rfl ?_; (conv => whnf)))
  (refine .inr (.inr (.inl ⟨rfl, _, _, (acall_row hT (by simp [PureL]) (by simp [PureL, pure_dtree]) (pure_wrow _ _) (pure_wrow _ _) (by simp [Pure]) (H := [.row true (wrow names bad), .row true (drow t)]) (id := 0) rfl), ?_⟩)); ((conv => whnf); repeat (refine And.intro rfl ?_; (conv => whnf))))
  refine ⟨by omega, _, kid_at hj, ?_⟩
  ((conv => whnf); repeat (refine And.intro rfl ?_; (conv => whnf)))
  (refine .inl ⟨_, (ltl_bare t.kind j (t.kid j).kind), ?_⟩; ((conv => whnf); repeat (refine And.intro rfl ?_; (conv => whnf))))
  (refine ifK_split (fun h => ?_) (fun h => ?_) <;> (rw [h]; ((conv => whnf); repeat (refine And.intro rfl ?_; (conv => whnf)))))
  · exact ⟨congrArg (fun s => D.sc (.string s)) (by simp [kidSL, wrapS, h]), rfl, by simp⟩
  · refine ⟨by simp only [ByteArray.size_append, size_mk, List.size_toArray, List.length_cons, List.length_nil]; omega, ?_⟩
    ((conv => whnf); repeat (refine And.intro rfl ?_; (conv => whnf)))
    refine ⟨by simp only [ByteArray.size_append, size_mk, List.size_toArray, List.length_cons, List.length_nil]; omega, ?_⟩
    ((conv => whnf); repeat (refine And.intro rfl ?_; (conv => whnf)))
    exact ⟨congrArg (fun s => D.sc (.string s)) (by simp [kidSL, wrapS, h]), rfl, by simp⟩
theorem ltl_text (names : List ByteArray) (hn : SmallS names) : ∀ t : Tree, t.wf lKids → t.size ≤ 60 → ∀ bad : Bool,
    ACall Try.prog 78 ([] ++ .loc 0 0 :: [dtree t]) [.row true (wrow names bad)] (.sc (.string (txtL names t))) [.row true (wrow names (bad || !okN names t))] := by
  intro t
  induction t using Tree.ind with
  | h t ih =>
    intro hwf hsz bad
    have hs := wf_small t hwf
    have har := node_arity ((wf_iff _ _).1 hwf).1
    have hnum : 0 ≤ t.num := by have := ((wf_iff _ _).1 hwf).1; unfold oddNode at this; omega
    have tsz : ∀ j, j < t.width → (txtL names (t.kid j)).size ≤ 720 ∧ (t.kid j).size ≤ 60 := fun j hj => by
      have h1 := txtL_size names (t.kid j)
      have h2 := size_kid hj
      omega
    have hkid : ∀ j, j < t.width → ∀ bad : Bool, ACall Try.prog 127 ([] ++ .loc 0 0 :: [dtree t, .sc (.int .i64 j)]) [.row true (wrow names bad)] (.sc (.string (kidSL names t j))) [.row true (wrow names (bad || !okN names (t.kid j)))] :=
      fun j hj bad => ltl_kid names t j hj (by have := tsz j hj; omega) bad _ (ih j hj (wf_kid hwf hj) (tsz j hj).2 bad)
    have ksz : ∀ j, j < t.width → (kidSL names t j).size ≤ 722 := fun j hj => by
      have := wrap_size (bareL t.kind j (t.kid j).kind) (txtL names (t.kid j))
      have := tsz j hj
      unfold kidSL
      omega
    clear ih
    refine acall_intro c78_ok (by simp) (by simp) ?_ (by simp [Under]) (by simp [AObj.under, underL_pure _ (pure_wrow _ _)])
    (apply red_sound; focus (repeat' (first | exact Red.skip | exact Red.ret | exact RedO.nil | exact RedD.nil | exact Red.exit _ | exact Red.loop _ | exact Red.stop _ | apply Red.ops | apply Red.draw | apply Red.seq | apply Red.cond | apply Red.block | apply RedO.cons | apply RedD.cons | exact (0 : Nat))))
    ((conv => whnf); repeat (refine And.intro rfl ?_; (conv => whnf)))
    have fin : ∀ {s : ByteArray} {b : Bool} {r : List D}, s = txtL names t → b = (bad || !okN names t) → (D.sc (.string s) = .sc (.string (txtL names t)) ∧ List.take 1 [AObj.row true [dstrs names, .sc (.bool b)], .row true r] = [AObj.row true (wrow names (bad || !okN names t))] ∧ [AObj.row true (wrow names (bad || !okN names t))].length ≤ 2) := fun h1 h2 => by
      subst h1 h2; exact ⟨rfl, rfl, by simp⟩
    have zero : t.width = 0 → txtL names t = joinL names t.kind t.num ⟨#[]⟩ ⟨#[]⟩ ∧ okN names t = okHead names t.kind t.num := fun h => ⟨txtL_0 names h, okN_0 names h⟩
    (refine ifK_split (fun h1 => ?_) (fun h1 => ?_) <;> (rw [h1]; ((conv => whnf); repeat (refine And.intro rfl ?_; (conv => whnf)))))
    · have hk : t.kind = 1 := by ((try simp only [bne_iff_ne, ne_eq, bne_eq_false_iff_eq, beq_iff_eq, beq_eq_false_iff_ne, decide_eq_true_eq, decide_eq_false_iff_not, List.length_map, Bool.not_eq_true, Bool.not_eq_false, Bool.and_eq_true, Bool.or_eq_true, Bool.and_eq_false_iff, Bool.or_eq_false_iff, Bool.not_eq_true', Bool.not_eq_false', Bool.not_true, Bool.not_false, Bool.not_eq_eq_eq_not, not_true_eq_false, not_false_eq_true, reduceCtorEq, Bool.true_or, Bool.false_or, Bool.or_true, Bool.or_false, Bool.true_and, Bool.and_true, Bool.false_and, Bool.and_false, true_and, and_true, or_false, false_or, true_or, or_true, false_and, and_false, Bool.true_eq_false, Bool.false_eq_true] at *) <;> omega)
      have := zero (by omega)
      exact fin (by rw [this.1, hk]; rfl) (by rw [this.2, hk]; simp [okHead])
    (refine ifK_split (fun h2 => ?_) (fun h2 => ?_) <;> (rw [h2]; ((conv => whnf); repeat (refine And.intro rfl ?_; (conv => whnf)))))
    · have hk : t.kind = 2 := by ((try simp only [bne_iff_ne, ne_eq, bne_eq_false_iff_eq, beq_iff_eq, beq_eq_false_iff_ne, decide_eq_true_eq, decide_eq_false_iff_not, List.length_map, Bool.not_eq_true, Bool.not_eq_false, Bool.and_eq_true, Bool.or_eq_true, Bool.and_eq_false_iff, Bool.or_eq_false_iff, Bool.not_eq_true', Bool.not_eq_false', Bool.not_true, Bool.not_false, Bool.not_eq_eq_eq_not, not_true_eq_false, not_false_eq_true, reduceCtorEq, Bool.true_or, Bool.false_or, Bool.or_true, Bool.or_false, Bool.true_and, Bool.and_true, Bool.false_and, Bool.and_false, true_and, and_true, or_false, false_or, true_or, or_true, false_and, and_false, Bool.true_eq_false, Bool.false_eq_true] at *) <;> omega)
      have := zero (by omega)
      exact fin (by rw [this.1, hk]; rfl) (by rw [this.2, hk]; simp [okHead])
    (refine ifK_split (fun h3 => ?_) (fun h3 => ?_) <;> (rw [h3]; ((conv => whnf); repeat (refine And.intro rfl ?_; (conv => whnf)))))
    · have hk : t.kind = 3 := by ((try simp only [bne_iff_ne, ne_eq, bne_eq_false_iff_eq, beq_iff_eq, beq_eq_false_iff_ne, decide_eq_true_eq, decide_eq_false_iff_not, List.length_map, Bool.not_eq_true, Bool.not_eq_false, Bool.and_eq_true, Bool.or_eq_true, Bool.and_eq_false_iff, Bool.or_eq_false_iff, Bool.not_eq_true', Bool.not_eq_false', Bool.not_true, Bool.not_false, Bool.not_eq_eq_eq_not, not_true_eq_false, not_false_eq_true, reduceCtorEq, Bool.true_or, Bool.false_or, Bool.or_true, Bool.or_false, Bool.true_and, Bool.and_true, Bool.false_and, Bool.and_false, true_and, and_true, or_false, false_or, true_or, or_true, false_and, and_false, Bool.true_eq_false, Bool.false_eq_true] at *) <;> omega)
      have := zero (by omega)
      (refine .inl ⟨_, (ltl_name names hn t.num hnum), ?_⟩; ((conv => whnf); repeat (refine And.intro rfl ?_; (conv => whnf))))
      cases bad
      · ((conv => whnf); repeat (refine And.intro rfl ?_; (conv => whnf)))
        exact fin (by rw [this.1, hk]; rfl) (by rw [this.2, hk]; show eqS (nm names t.num) ⟨#[]⟩ = _; simp only [okHead]; cases eqS (nm names t.num) ⟨#[]⟩ <;> rfl)
      · ((conv => whnf); repeat (refine And.intro rfl ?_; (conv => whnf)))
        exact fin (by rw [this.1, hk]; rfl) (by simp)
    clear zero
    have one : t.width = 1 → txtL names t = joinL names t.kind t.num (kidSL names t 0) ⟨#[]⟩ ∧ okN names t = okN names (t.kid 0) := fun h => ⟨txtL_1 names h, okN_1 names h (by ((try simp only [bne_iff_ne, ne_eq, bne_eq_false_iff_eq, beq_iff_eq, beq_eq_false_iff_ne, decide_eq_true_eq, decide_eq_false_iff_not, List.length_map, Bool.not_eq_true, Bool.not_eq_false, Bool.and_eq_true, Bool.or_eq_true, Bool.and_eq_false_iff, Bool.or_eq_false_iff, Bool.not_eq_true', Bool.not_eq_false', Bool.not_true, Bool.not_false, Bool.not_eq_eq_eq_not, not_true_eq_false, not_false_eq_true, reduceCtorEq, Bool.true_or, Bool.false_or, Bool.or_true, Bool.or_false, Bool.true_and, Bool.and_true, Bool.false_and, Bool.and_false, true_and, and_true, or_false, false_or, true_or, or_true, false_and, and_false, Bool.true_eq_false, Bool.false_eq_true] at *) <;> omega))⟩
    (refine ifK_split (fun h4 => ?_) (fun h4 => ?_) <;> (rw [h4]; ((conv => whnf); repeat (refine And.intro rfl ?_; (conv => whnf)))))
    · have hk : t.kind = 4 := by ((try simp only [bne_iff_ne, ne_eq, bne_eq_false_iff_eq, beq_iff_eq, beq_eq_false_iff_ne, decide_eq_true_eq, decide_eq_false_iff_not, List.length_map, Bool.not_eq_true, Bool.not_eq_false, Bool.and_eq_true, Bool.or_eq_true, Bool.and_eq_false_iff, Bool.or_eq_false_iff, Bool.not_eq_true', Bool.not_eq_false', Bool.not_true, Bool.not_false, Bool.not_eq_eq_eq_not, not_true_eq_false, not_false_eq_true, reduceCtorEq, Bool.true_or, Bool.false_or, Bool.or_true, Bool.or_false, Bool.true_and, Bool.and_true, Bool.false_and, Bool.and_false, true_and, and_true, or_false, false_or, true_or, or_true, false_and, and_false, Bool.true_eq_false, Bool.false_eq_true] at *) <;> omega)
      have hw : t.width = 1 := by omega
      have := one hw
      have := ksz 0 (by omega)
      (refine .inr (.inr (.inl ⟨rfl, _, _, (acall_row (hkid 0 (by omega) bad) (by simp [PureL]) (by simp [PureL, pure_dtree, Pure]) (pure_wrow _ _) (pure_wrow _ _) (by simp [Pure]) (H := [.row true (wrow names bad), .row true (drow t)]) (id := 0) rfl), ?_⟩)); ((conv => whnf); repeat (refine And.intro rfl ?_; (conv => whnf))))
      refine ⟨by simp only [ByteArray.size_append, size_mk, List.size_toArray, List.length_cons, List.length_nil]; omega, ?_⟩
      ((conv => whnf); repeat (refine And.intro rfl ?_; (conv => whnf)))
      exact fin (by rw [(one hw).1, hk]; rfl) (by rw [(one hw).2])
    (refine ifK_split (fun h5 => ?_) (fun h5 => ?_) <;> (rw [h5]; ((conv => whnf); repeat (refine And.intro rfl ?_; (conv => whnf)))))
    · have hk : t.kind = 7 := by ((try simp only [bne_iff_ne, ne_eq, bne_eq_false_iff_eq, beq_iff_eq, beq_eq_false_iff_ne, decide_eq_true_eq, decide_eq_false_iff_not, List.length_map, Bool.not_eq_true, Bool.not_eq_false, Bool.and_eq_true, Bool.or_eq_true, Bool.and_eq_false_iff, Bool.or_eq_false_iff, Bool.not_eq_true', Bool.not_eq_false', Bool.not_true, Bool.not_false, Bool.not_eq_eq_eq_not, not_true_eq_false, not_false_eq_true, reduceCtorEq, Bool.true_or, Bool.false_or, Bool.or_true, Bool.or_false, Bool.true_and, Bool.and_true, Bool.false_and, Bool.and_false, true_and, and_true, or_false, false_or, true_or, or_true, false_and, and_false, Bool.true_eq_false, Bool.false_eq_true] at *) <;> omega)
      have hw : t.width = 1 := by omega
      have := one hw
      have := ksz 0 (by omega)
      (refine .inr (.inr (.inl ⟨rfl, _, _, (acall_row (hkid 0 (by omega) bad) (by simp [PureL]) (by simp [PureL, pure_dtree, Pure]) (pure_wrow _ _) (pure_wrow _ _) (by simp [Pure]) (H := [.row true (wrow names bad), .row true (drow t)]) (id := 0) rfl), ?_⟩)); ((conv => whnf); repeat (refine And.intro rfl ?_; (conv => whnf))))
      refine ⟨by simp only [ByteArray.size_append, size_mk, List.size_toArray, List.length_cons, List.length_nil]; omega, ?_⟩
      ((conv => whnf); repeat (refine And.intro rfl ?_; (conv => whnf)))
      exact fin (by rw [(one hw).1, hk]; rfl) (by rw [(one hw).2])
    (refine ifK_split (fun h6 => ?_) (fun h6 => ?_) <;> (rw [h6]; ((conv => whnf); repeat (refine And.intro rfl ?_; (conv => whnf)))))
    · have hk : t.kind = 10 := by ((try simp only [bne_iff_ne, ne_eq, bne_eq_false_iff_eq, beq_iff_eq, beq_eq_false_iff_ne, decide_eq_true_eq, decide_eq_false_iff_not, List.length_map, Bool.not_eq_true, Bool.not_eq_false, Bool.and_eq_true, Bool.or_eq_true, Bool.and_eq_false_iff, Bool.or_eq_false_iff, Bool.not_eq_true', Bool.not_eq_false', Bool.not_true, Bool.not_false, Bool.not_eq_eq_eq_not, not_true_eq_false, not_false_eq_true, reduceCtorEq, Bool.true_or, Bool.false_or, Bool.or_true, Bool.or_false, Bool.true_and, Bool.and_true, Bool.false_and, Bool.and_false, true_and, and_true, or_false, false_or, true_or, or_true, false_and, and_false, Bool.true_eq_false, Bool.false_eq_true] at *) <;> omega)
      have hw : t.width = 1 := by omega
      have := one hw
      have := ksz 0 (by omega)
      (refine .inr (.inr (.inl ⟨rfl, _, _, (acall_row (hkid 0 (by omega) bad) (by simp [PureL]) (by simp [PureL, pure_dtree, Pure]) (pure_wrow _ _) (pure_wrow _ _) (by simp [Pure]) (H := [.row true (wrow names bad), .row true (drow t)]) (id := 0) rfl), ?_⟩)); ((conv => whnf); repeat (refine And.intro rfl ?_; (conv => whnf))))
      refine ⟨by simp only [ByteArray.size_append, size_mk, List.size_toArray, List.length_cons, List.length_nil]; omega, ?_⟩
      ((conv => whnf); repeat (refine And.intro rfl ?_; (conv => whnf)))
      exact fin (by rw [(one hw).1, hk]; rfl) (by rw [(one hw).2])
    (refine ifK_split (fun h7 => ?_) (fun h7 => ?_) <;> (rw [h7]; ((conv => whnf); repeat (refine And.intro rfl ?_; (conv => whnf)))))
    · have hk : t.kind = 11 := by ((try simp only [bne_iff_ne, ne_eq, bne_eq_false_iff_eq, beq_iff_eq, beq_eq_false_iff_ne, decide_eq_true_eq, decide_eq_false_iff_not, List.length_map, Bool.not_eq_true, Bool.not_eq_false, Bool.and_eq_true, Bool.or_eq_true, Bool.and_eq_false_iff, Bool.or_eq_false_iff, Bool.not_eq_true', Bool.not_eq_false', Bool.not_true, Bool.not_false, Bool.not_eq_eq_eq_not, not_true_eq_false, not_false_eq_true, reduceCtorEq, Bool.true_or, Bool.false_or, Bool.or_true, Bool.or_false, Bool.true_and, Bool.and_true, Bool.false_and, Bool.and_false, true_and, and_true, or_false, false_or, true_or, or_true, false_and, and_false, Bool.true_eq_false, Bool.false_eq_true] at *) <;> omega)
      have hw : t.width = 1 := by omega
      have := one hw
      have := ksz 0 (by omega)
      (refine .inr (.inr (.inl ⟨rfl, _, _, (acall_row (hkid 0 (by omega) bad) (by simp [PureL]) (by simp [PureL, pure_dtree, Pure]) (pure_wrow _ _) (pure_wrow _ _) (by simp [Pure]) (H := [.row true (wrow names bad), .row true (drow t)]) (id := 0) rfl), ?_⟩)); ((conv => whnf); repeat (refine And.intro rfl ?_; (conv => whnf))))
      refine ⟨by simp only [ByteArray.size_append, size_mk, List.size_toArray, List.length_cons, List.length_nil]; omega, ?_⟩
      ((conv => whnf); repeat (refine And.intro rfl ?_; (conv => whnf)))
      exact fin (by rw [(one hw).1, hk]; rfl) (by rw [(one hw).2])
    clear one
    have hw : t.width = 2 := by ((try simp only [bne_iff_ne, ne_eq, bne_eq_false_iff_eq, beq_iff_eq, beq_eq_false_iff_ne, decide_eq_true_eq, decide_eq_false_iff_not, List.length_map, Bool.not_eq_true, Bool.not_eq_false, Bool.and_eq_true, Bool.or_eq_true, Bool.and_eq_false_iff, Bool.or_eq_false_iff, Bool.not_eq_true', Bool.not_eq_false', Bool.not_true, Bool.not_false, Bool.not_eq_eq_eq_not, not_true_eq_false, not_false_eq_true, reduceCtorEq, Bool.true_or, Bool.false_or, Bool.or_true, Bool.or_false, Bool.true_and, Bool.and_true, Bool.false_and, Bool.and_false, true_and, and_true, or_false, false_or, true_or, or_true, false_and, and_false, Bool.true_eq_false, Bool.false_eq_true] at *) <;> omega)
    have k0 := ksz 0 (by omega)
    have k1 := ksz 1 (by omega)
    have e1 := txtL_2 names hw
    have e2 := okN_2 names hw (by ((try simp only [bne_iff_ne, ne_eq, bne_eq_false_iff_eq, beq_iff_eq, beq_eq_false_iff_ne, decide_eq_true_eq, decide_eq_false_iff_not, List.length_map, Bool.not_eq_true, Bool.not_eq_false, Bool.and_eq_true, Bool.or_eq_true, Bool.and_eq_false_iff, Bool.or_eq_false_iff, Bool.not_eq_true', Bool.not_eq_false', Bool.not_true, Bool.not_false, Bool.not_eq_eq_eq_not, not_true_eq_false, not_false_eq_true, reduceCtorEq, Bool.true_or, Bool.false_or, Bool.or_true, Bool.or_false, Bool.true_and, Bool.and_true, Bool.false_and, Bool.and_false, true_and, and_true, or_false, false_or, true_or, or_true, false_and, and_false, Bool.true_eq_false, Bool.false_eq_true] at *) <;> omega))
    have hk : t.kind = 5 ∨ t.kind = 6 ∨ t.kind = 8 ∨ t.kind = 9 := by ((try simp only [bne_iff_ne, ne_eq, bne_eq_false_iff_eq, beq_iff_eq, beq_eq_false_iff_ne, decide_eq_true_eq, decide_eq_false_iff_not, List.length_map, Bool.not_eq_true, Bool.not_eq_false, Bool.and_eq_true, Bool.or_eq_true, Bool.and_eq_false_iff, Bool.or_eq_false_iff, Bool.not_eq_true', Bool.not_eq_false', Bool.not_true, Bool.not_false, Bool.not_eq_eq_eq_not, not_true_eq_false, not_false_eq_true, reduceCtorEq, Bool.true_or, Bool.false_or, Bool.or_true, Bool.or_false, Bool.true_and, Bool.and_true, Bool.false_and, Bool.and_false, true_and, and_true, or_false, false_or, true_or, or_true, false_and, and_false, Bool.true_eq_false, Bool.false_eq_true] at *) <;> omega)
    refine ⟨by omega, by omega, ?_⟩
    have two : ∀ {c : UInt8} {r : List D}, joinL names t.kind t.num (kidSL names t 0) (kidSL names t 1) = kidSL names t 0 ++ ⟨#[32, c, 32]⟩ ++ kidSL names t 1 →
        (D.sc (.string (kidSL names t 0 ++ ⟨#[32]⟩ ++ ⟨#[c]⟩ ++ ⟨#[32]⟩ ++ kidSL names t 1)) = .sc (.string (txtL names t)) ∧ List.take 1 [AObj.row true [dstrs names, .sc (.bool ((bad || !okN names (t.kid 0)) || !okN names (t.kid 1)))], .row true r] = [AObj.row true (wrow names (bad || !okN names t))] ∧ [AObj.row true (wrow names (bad || !okN names t))].length ≤ 2) := fun h =>
      fin (by rw [cat3, e1, h]) (by rw [e2]; cases bad <;> cases okN names (t.kid 0) <;> rfl)
    clear fin
    have A0 := acallAt_row (hkid 0 (by omega) bad) (by simp [PureL]) (by simp [PureL, pure_dtree, Pure]) (pure_wrow _ _) (pure_wrow _ _) (by simp [Pure]) (H := [.row true (wrow names bad), .row true (drow t)]) (id := 0) rfl
    have A1 := acallAt_row (hkid 1 (by omega) (bad || !okN names (t.kid 0))) (by simp [PureL]) (by simp [PureL, pure_dtree, Pure]) (pure_wrow _ _) (pure_wrow _ _) (by simp [Pure]) (H := [.row true (wrow names (bad || !okN names (t.kid 0))), .row true (drow t)]) (id := 0) rfl
    rcases hk with hk | hk | hk | hk
    all_goals
      refine ⟨_, by rw [hk]; rfl, ?_⟩
      ((conv => whnf); repeat (refine And.intro rfl ?_; (conv => whnf)))
      (refine .inr (.inr (.inr (.inr ⟨_, _, _, A0, ?_⟩))); ((conv => whnf); repeat (refine And.intro rfl ?_; (conv => whnf))))
      refine ⟨by simp only [ByteArray.size_append, size_mk, List.size_toArray, List.length_cons, List.length_nil]; omega, ?_⟩
      ((conv => whnf); repeat (refine And.intro rfl ?_; (conv => whnf)))
      refine ⟨by simp only [ByteArray.size_append, size_mk, List.size_toArray, List.length_cons, List.length_nil]; omega, ?_⟩
      ((conv => whnf); repeat (refine And.intro rfl ?_; (conv => whnf)))
      refine ⟨by simp only [ByteArray.size_append, size_mk, List.size_toArray, List.length_cons, List.length_nil]; omega, ?_⟩
      ((conv => whnf); repeat (refine And.intro rfl ?_; (conv => whnf)))
      (refine .inr (.inr (.inr (.inr ⟨_, _, _, A1, ?_⟩))); ((conv => whnf); repeat (refine And.intro rfl ?_; (conv => whnf))))
      refine ⟨by simp only [ByteArray.size_append, size_mk, List.size_toArray, List.length_cons, List.length_nil]; omega, ?_⟩
      ((conv => whnf); repeat (refine And.intro rfl ?_; (conv => whnf)))
      exact two (by rw [hk]; rfl)
def c39 : PC := .seq (.ops [⟨(some 2), .box (.tmp 0), none, 0⟩,
    ⟨(some 4), .move (.const (.string ⟨#[]⟩)), none, 0⟩,
    ⟨(some 5), .move (.const (.int .i64 0)), none, 0⟩] false) (.seq (.seq (.ops [⟨(some 9), .loadA 3 (.tmp 2), none, 0⟩,
    ⟨(some 10), .call 40 [(.tmp 9)], none, 0⟩,
    ⟨(some 6), .move (.tmp 10), none, 0⟩] false) (.seq (.ops [⟨(some 11), .move (.tmp 6), none, 0⟩,
    ⟨(some 12), .bin .neq (.tmp 11) (.const (.int .i64 0)), none, 0⟩] false) (.cond (.tmp 12) (.seq (.ops [⟨(some 13), .move (.tmp 6), none, 0⟩,
    ⟨(some 4), .move (.const (.string ⟨#[]⟩)), none, 0⟩,
    ⟨(some 5), .move (.tmp 13), none, 0⟩] false) (.ret)) (.skip)))) (.seq (.ops [⟨(some 14), .move (.tmp 1), none, 0⟩,
    ⟨(some 15), .build [(.slice none 0 0), (.bool false)] [(0, 1, (.tmp 14))], none, 0⟩,
    ⟨(some 16), .box (.tmp 15), none, 0⟩,
    ⟨(some 7), .move (.tmp 16), none, 0⟩] false) (.seq (.ops [⟨(some 17), .move (.tmp 7), none, 0⟩,
    ⟨(some 18), .loadA 3 (.tmp 2), none, 0⟩,
    ⟨(some 19), .call 78 [(.tmp 17), (.tmp 18)], none, 0⟩,
    ⟨(some 8), .move (.tmp 19), none, 0⟩] false) (.seq (.seq (.ops [⟨(some 20), .move (.tmp 7), none, 0⟩,
    ⟨(some 21), .nilchk (.tmp 20), none, 0⟩,
    ⟨(some 22), .faddr 1 (.tmp 21), none, 0⟩,
    ⟨(some 23), .load1 (.tmp 22), none, 0⟩] false) (.cond (.tmp 23) (.seq (.ops [⟨(some 4), .move (.const (.string ⟨#[]⟩)), none, 0⟩,
    ⟨(some 5), .move (.const (.int .i64 4)), none, 0⟩] false) (.ret)) (.skip))) (.seq (.ops [⟨(some 24), .move (.tmp 8), none, 0⟩,
    ⟨(some 4), .move (.tmp 24), none, 0⟩,
    ⟨(some 5), .move (.const (.int .i64 0)), none, 0⟩] false) (.ret))))))
set_option maxRecDepth 100000 in
theorem c39_ok : FunOK Try.prog 39 25 [.tmp 4, .tmp 5] c39 := ⟨⟨Try.f39, Try.func39, rfl, by kernel_rfl, rfl, by kernel_rfl⟩⟩
/-- What a printer answers. -/
noncomputable def printedL (names : List ByteArray) (t : Tree) : D :=
  if chk lKids t = 0 then (if okN names t then .tup [.sc (.string (txtL names t)), .sc (.int .i64 0)] else .tup [.sc (.string ⟨#[]⟩), .sc (.int .i64 4)]) else .tup [.sc (.string ⟨#[]⟩), .sc (.int .i64 (chk lKids t))]
theorem ltl_Print (names : List ByteArray) (hn : SmallS names) (t : Tree) (hs : Small t) : PCall Try.prog 39 [dtree t, dstrs names] (printedL names t) := by
  refine pcall_intro c39_ok (by simp) (by simp [PureL, pure_dtree, pure_dstrs]) ?_ (by unfold printedL; (repeat' split) <;> simp [Pure, PureL])
  (apply red_sound; focus (repeat' (first | exact Red.skip | exact Red.ret | exact RedO.nil | exact RedD.nil | exact Red.exit _ | exact Red.loop _ | exact Red.stop _ | apply Red.ops | apply Red.draw | apply Red.seq | apply Red.cond | apply Red.block | apply RedO.cons | apply RedD.cons | exact (0 : Nat))))
  ((conv => whnf); repeat (refine And.intro rfl ?_; (conv => whnf)))
  (refine .inl ⟨_, (ltl_Check t hs), ?_⟩; ((conv => whnf); repeat (refine And.intro rfl ?_; (conv => whnf))))
  (refine ifK_split (fun h1 => ?_) (fun h1 => ?_) <;> (rw [h1]; ((conv => whnf); repeat (refine And.intro rfl ?_; (conv => whnf)))))
  · have h : ¬ chk lKids t = 0 := by ((try simp only [bne_iff_ne, ne_eq, bne_eq_false_iff_eq, beq_iff_eq, beq_eq_false_iff_ne, decide_eq_true_eq, decide_eq_false_iff_not, List.length_map, Bool.not_eq_true, Bool.not_eq_false, Bool.and_eq_true, Bool.or_eq_true, Bool.and_eq_false_iff, Bool.or_eq_false_iff, Bool.not_eq_true', Bool.not_eq_false', Bool.not_true, Bool.not_false, Bool.not_eq_eq_eq_not, not_true_eq_false, not_false_eq_true, reduceCtorEq, Bool.true_or, Bool.false_or, Bool.or_true, Bool.or_false, Bool.true_and, Bool.and_true, Bool.false_and, Bool.and_false, true_and, and_true, or_false, false_or, true_or, or_true, false_and, and_false, Bool.true_eq_false, Bool.false_eq_true] at *) <;> omega)
    unfold printedL
    rw [if_neg h]
    (repeat' (first | exact Deep.refl _ | exact Deep.none _ | exact deep_row _ | exact DeepL.nil | exact DeepLL.nil | refine Deep.agg _ _ ?_ | refine Deep.tup _ _ ?_ | refine Deep.own _ _ _ _ _ _ _ _ rfl ?_ | refine Deep.loc _ _ _ _ _ rfl ?_ | refine Deep.ifc _ _ _ ?_ | refine DeepL.cons _ _ _ _ ?_ ?_ | refine DeepLL.cons _ _ _ _ ?_ ?_))
  · have h : chk lKids t = 0 := by ((try simp only [bne_iff_ne, ne_eq, bne_eq_false_iff_eq, beq_iff_eq, beq_eq_false_iff_ne, decide_eq_true_eq, decide_eq_false_iff_not, List.length_map, Bool.not_eq_true, Bool.not_eq_false, Bool.and_eq_true, Bool.or_eq_true, Bool.and_eq_false_iff, Bool.or_eq_false_iff, Bool.not_eq_true', Bool.not_eq_false', Bool.not_true, Bool.not_false, Bool.not_eq_eq_eq_not, not_true_eq_false, not_false_eq_true, reduceCtorEq, Bool.true_or, Bool.false_or, Bool.or_true, Bool.or_false, Bool.true_and, Bool.and_true, Bool.false_and, Bool.and_false, true_and, and_true, or_false, false_or, true_or, or_true, false_and, and_false, Bool.true_eq_false, Bool.false_eq_true] at *) <;> omega)
    have hz := (chk_zero _ _).1 h
    unfold printedL
    rw [if_pos h]
    (refine .inr (.inr (.inl ⟨rfl, _, _, (acall_row (ltl_text names hn t hz.2.2 hz.1 false) (by simp [PureL]) (by simp [PureL, pure_dtree]) (pure_wrow _ _) (pure_wrow _ _) (by simp [Pure]) (H := [.row true (drow t), .row true (wrow names false)]) (id := 1) rfl), ?_⟩)); ((conv => whnf); repeat (refine And.intro rfl ?_; (conv => whnf))))
    cases hk : okN names t
    · ((conv => whnf); repeat (refine And.intro rfl ?_; (conv => whnf)))
      (repeat' (first | exact Deep.refl _ | exact Deep.none _ | exact deep_row _ | exact DeepL.nil | exact DeepLL.nil | refine Deep.agg _ _ ?_ | refine Deep.tup _ _ ?_ | refine Deep.own _ _ _ _ _ _ _ _ rfl ?_ | refine Deep.loc _ _ _ _ _ rfl ?_ | refine Deep.ifc _ _ _ ?_ | refine DeepL.cons _ _ _ _ ?_ ?_ | refine DeepLL.cons _ _ _ _ ?_ ?_))
    · ((conv => whnf); repeat (refine And.intro rfl ?_; (conv => whnf)))
      (repeat' (first | exact Deep.refl _ | exact Deep.none _ | exact deep_row _ | exact DeepL.nil | exact DeepLL.nil | refine Deep.agg _ _ ?_ | refine Deep.tup _ _ ?_ | refine Deep.own _ _ _ _ _ _ _ _ rfl ?_ | refine Deep.loc _ _ _ _ _ rfl ?_ | refine Deep.ifc _ _ _ ?_ | refine DeepL.cons _ _ _ _ ?_ ?_ | refine DeepLL.cons _ _ _ _ ?_ ?_))
def c41_1 : PC := .seq (.seq (.ops [⟨(some 13), .move (.tmp 7), none, 0⟩,
    ⟨(some 14), .faddr 2 (.tmp 2), none, 0⟩,
    ⟨(some 15), .load1 (.tmp 14), none, 0⟩,
    ⟨(some 16), .len (.tmp 15), none, 0⟩,
    ⟨(some 17), .bin .lss (.tmp 13) (.tmp 16), none, 0⟩] false) (.cond (.tmp 17) (.skip) (.exit 0))) (.seq (.block 1 (.seq (.ops [⟨(some 20), .faddr 2 (.tmp 2), none, 0⟩,
    ⟨(some 21), .load1 (.tmp 20), none, 0⟩,
    ⟨(some 22), .move (.tmp 7), none, 0⟩,
    ⟨(some 23), .iaddr 3 (.tmp 21) (.tmp 22), none, 0⟩,
    ⟨(some 24), .loadA 3 (.tmp 23), none, 0⟩,
    ⟨(some 8), .alloc [(.int .i64 0), (.int .i64 0), (.slice none 0 0)], none, 0⟩,
    ⟨none, .store 3 (.tmp 8) (.tmp 24), none, 0⟩] false) (.seq (.ops [⟨(some 26), .loadA 3 (.tmp 8), none, 0⟩,
    ⟨(some 27), .move (.tmp 1), none, 0⟩,
    ⟨(some 28), .call 41 [(.tmp 26), (.tmp 27)], none, 0⟩,
    ⟨(some 25), .move (.tmp 28), none, 0⟩,
    ⟨(some 29), .ext 0 (.tmp 25), none, 0⟩,
    ⟨(some 30), .ext 1 (.tmp 25), none, 0⟩,
    ⟨(some 9), .move (.tmp 29), none, 0⟩,
    ⟨(some 10), .move (.tmp 30), none, 0⟩] false) (.seq (.seq (.ops [⟨(some 31), .move (.tmp 10), none, 0⟩,
    ⟨(some 32), .un .not (.tmp 31), none, 0⟩] false) (.cond (.tmp 32) (.seq (.ops [⟨(some 4), .move (.const (.string ⟨#[]⟩)), none, 0⟩,
    ⟨(some 5), .move (.const (.bool false)), none, 0⟩] false) (.ret)) (.skip))) (.seq (.stop (.ops [⟨(some 33), .faddr 0 (.tmp 8), none, 0⟩,
    ⟨(some 34), .load1 (.tmp 33), none, 0⟩,
    ⟨(some 35), .bin .eql (.tmp 34) (.const (.int .i64 5)), none, 0⟩,
    ⟨(some 36), .move (.tmp 35), none, 0⟩,
    ⟨(some 37), .faddr 0 (.tmp 8), (some (36, false)), 0⟩,
    ⟨(some 38), .load1 (.tmp 37), (some (36, false)), 0⟩,
    ⟨(some 39), .bin .eql (.tmp 38) (.const (.int .i64 6)), (some (36, false)), 0⟩,
    ⟨(some 40), .pick (.tmp 36) (.const (.bool true)) (.tmp 39), none, 0⟩,
    ⟨(some 41), .move (.tmp 40), none, 0⟩,
    ⟨(some 42), .faddr 0 (.tmp 8), (some (41, false)), 0⟩,
    ⟨(some 43), .load1 (.tmp 42), (some (41, false)), 0⟩,
    ⟨(some 44), .bin .eql (.tmp 43) (.const (.int .i64 8)), (some (41, false)), 0⟩,
    ⟨(some 45), .pick (.tmp 41) (.const (.bool true)) (.tmp 44), none, 0⟩,
    ⟨(some 46), .move (.tmp 45), none, 0⟩,
    ⟨(some 47), .faddr 0 (.tmp 8), (some (46, false)), 0⟩,
    ⟨(some 48), .load1 (.tmp 47), (some (46, false)), 0⟩,
    ⟨(some 49), .bin .eql (.tmp 48) (.const (.int .i64 9)), (some (46, false)), 0⟩,
    ⟨(some 50), .pick (.tmp 46) (.const (.bool true)) (.tmp 49), none, 0⟩,
    ⟨(some 11), .move (.tmp 50), none, 0⟩] false)) (.seq (.seq (.stop (.ops [⟨(some 51), .move (.tmp 7), none, 0⟩,
    ⟨(some 52), .bin .eql (.tmp 51) (.const (.int .i64 0)), none, 0⟩,
    ⟨(some 53), .move (.tmp 52), none, 0⟩,
    ⟨(some 54), .faddr 0 (.tmp 8), (some (53, true)), 0⟩,
    ⟨(some 55), .load1 (.tmp 54), (some (53, true)), 0⟩,
    ⟨(some 56), .faddr 0 (.tmp 2), (some (53, true)), 0⟩,
    ⟨(some 57), .load1 (.tmp 56), (some (53, true)), 0⟩,
    ⟨(some 58), .bin .eql (.tmp 55) (.tmp 57), (some (53, true)), 0⟩,
    ⟨(some 59), .pick (.tmp 53) (.tmp 58) (.const (.bool false)), none, 0⟩,
    ⟨(some 60), .move (.tmp 59), none, 0⟩,
    ⟨(some 61), .faddr 0 (.tmp 8), (some (60, true)), 0⟩,
    ⟨(some 62), .load1 (.tmp 61), (some (60, true)), 0⟩,
    ⟨(some 63), .bin .eql (.tmp 62) (.const (.int .i64 5)), (some (60, true)), 0⟩,
    ⟨(some 64), .move (.tmp 63), (some (60, true)), 0⟩,
    ⟨(some 65), .faddr 0 (.tmp 8), (some (64, false)), 0⟩,
    ⟨(some 66), .load1 (.tmp 65), (some (64, false)), 0⟩,
    ⟨(some 67), .bin .eql (.tmp 66) (.const (.int .i64 6)), (some (64, false)), 0⟩,
    ⟨(some 68), .pick (.tmp 64) (.const (.bool true)) (.tmp 67), (some (60, true)), 0⟩,
    ⟨(some 69), .pick (.tmp 60) (.tmp 68) (.const (.bool false)), none, 0⟩,
    ⟨(some 70), .move (.tmp 69), none, 0⟩,
    ⟨(some 71), .move (.tmp 7), (some (70, false)), 0⟩,
    ⟨(some 72), .bin .eql (.tmp 71) (.const (.int .i64 1)), (some (70, false)), 0⟩,
    ⟨(some 73), .move (.tmp 72), (some (70, false)), 0⟩,
    ⟨(some 74), .faddr 0 (.tmp 8), (some (73, true)), 0⟩,
    ⟨(some 75), .load1 (.tmp 74), (some (73, true)), 0⟩,
    ⟨(some 76), .faddr 0 (.tmp 2), (some (73, true)), 0⟩,
    ⟨(some 77), .load1 (.tmp 76), (some (73, true)), 0⟩,
    ⟨(some 78), .bin .eql (.tmp 75) (.tmp 77), (some (73, true)), 0⟩,
    ⟨(some 79), .pick (.tmp 73) (.tmp 78) (.const (.bool false)), (some (70, false)), 0⟩,
    ⟨(some 80), .move (.tmp 79), (some (70, false)), 0⟩,
    ⟨(some 81), .faddr 0 (.tmp 8), (some (80, true)), 0⟩,
    ⟨(some 82), .load1 (.tmp 81), (some (80, true)), 0⟩,
    ⟨(some 83), .bin .eql (.tmp 82) (.const (.int .i64 8)), (some (80, true)), 0⟩,
    ⟨(some 84), .move (.tmp 83), (some (80, true)), 0⟩,
    ⟨(some 85), .faddr 0 (.tmp 8), (some (84, false)), 0⟩,
    ⟨(some 86), .load1 (.tmp 85), (some (84, false)), 0⟩,
    ⟨(some 87), .bin .eql (.tmp 86) (.const (.int .i64 9)), (some (84, false)), 0⟩,
    ⟨(some 88), .pick (.tmp 84) (.const (.bool true)) (.tmp 87), (some (80, true)), 0⟩,
    ⟨(some 89), .pick (.tmp 80) (.tmp 88) (.const (.bool false)), (some (70, false)), 0⟩,
    ⟨(some 90), .pick (.tmp 70) (.const (.bool true)) (.tmp 89), none, 0⟩,
    ⟨(some 91), .move (.tmp 90), none, 0⟩,
    ⟨(some 92), .faddr 0 (.tmp 2), (some (91, false)), 0⟩,
    ⟨(some 93), .load1 (.tmp 92), (some (91, false)), 0⟩,
    ⟨(some 94), .bin .eql (.tmp 93) (.const (.int .i64 6)), (some (91, false)), 0⟩,
    ⟨(some 95), .move (.tmp 94), (some (91, false)), 0⟩,
    ⟨(some 96), .faddr 0 (.tmp 8), (some (95, true)), 0⟩,
    ⟨(some 97), .load1 (.tmp 96), (some (95, true)), 0⟩,
    ⟨(some 98), .bin .eql (.tmp 97) (.const (.int .i64 5)), (some (95, true)), 0⟩,
    ⟨(some 99), .pick (.tmp 95) (.tmp 98) (.const (.bool false)), (some (91, false)), 0⟩,
    ⟨(some 100), .pick (.tmp 91) (.const (.bool true)) (.tmp 99), none, 0⟩] false)) (.cond (.tmp 100) (.ops [⟨(some 11), .move (.const (.bool false)), none, 0⟩] false) (.skip))) (.seq (.seq (.ops [⟨(some 101), .move (.tmp 11), none, 0⟩] false) (.cond (.tmp 101) (.ops [⟨(some 102), .move (.tmp 9), none, 0⟩,
    ⟨(some 103), .bin .add (.const (.string ⟨#[40]⟩)) (.tmp 102), none, 0⟩,
    ⟨(some 104), .bin .add (.tmp 103) (.const (.string ⟨#[41]⟩)), none, 0⟩,
    ⟨(some 9), .move (.tmp 104), none, 0⟩] false) (.skip))) (.ops [⟨(some 105), .move (.tmp 6), none, 0⟩,
    ⟨(some 106), .move (.tmp 9), none, 0⟩,
    ⟨(some 107), .bslice 1 1 [(.tmp 106)], none, 0⟩,
    ⟨(some 108), .append 1 16 (.tmp 105) (.tmp 107), none, 0⟩,
    ⟨(some 6), .move (.tmp 108), none, 0⟩] false)))))))) (.ops [⟨(some 18), .move (.tmp 7), none, 0⟩,
    ⟨(some 19), .bin .add (.tmp 18) (.const (.int .i64 1)), none, 0⟩,
    ⟨(some 7), .move (.tmp 19), none, 0⟩] false))
def c41 : PC := .seq (.ops [⟨(some 2), .box (.tmp 0), none, 0⟩,
    ⟨(some 4), .move (.const (.string ⟨#[]⟩)), none, 0⟩,
    ⟨(some 5), .move (.const (.bool false)), none, 0⟩] false) (.seq (.ops [⟨(some 6), .move (.const (.slice none 0 0)), none, 0⟩] false) (.seq (.seq (.ops [⟨(some 7), .move (.const (.int .i64 0)), none, 0⟩] false) (.block 0 (.loop c41_1))) (.seq (.seq (.ops [⟨(some 109), .faddr 0 (.tmp 2), none, 0⟩,
    ⟨(some 110), .load1 (.tmp 109), none, 0⟩] false) (.block 2 (.seq (.ops [⟨(some 112), .bin .eql (.tmp 110) (.const (.int .i64 1)), none, 0⟩,
    ⟨(some 111), .move (.tmp 112), none, 0⟩] false) (.cond (.tmp 111) (.seq (.ops [⟨(some 4), .move (.const (.string ⟨#[116, 114, 117, 101]⟩)), none, 0⟩,
    ⟨(some 5), .move (.const (.bool true)), none, 0⟩] false) (.ret)) (.seq (.ops [⟨(some 114), .bin .eql (.tmp 110) (.const (.int .i64 2)), none, 0⟩,
    ⟨(some 113), .move (.tmp 114), none, 0⟩] false) (.cond (.tmp 113) (.seq (.ops [⟨(some 4), .move (.const (.string ⟨#[102, 97, 108, 115, 101]⟩)), none, 0⟩,
    ⟨(some 5), .move (.const (.bool true)), none, 0⟩] false) (.ret)) (.seq (.ops [⟨(some 116), .bin .eql (.tmp 110) (.const (.int .i64 3)), none, 0⟩,
    ⟨(some 115), .move (.tmp 116), none, 0⟩] false) (.cond (.tmp 115) (.seq (.ops [⟨(some 117), .faddr 1 (.tmp 2), none, 0⟩,
    ⟨(some 118), .load1 (.tmp 117), none, 0⟩,
    ⟨(some 119), .move (.tmp 1), none, 0⟩,
    ⟨(some 120), .call 75 [(.tmp 118), (.tmp 119)], none, 0⟩,
    ⟨(some 12), .move (.tmp 120), none, 0⟩] false) (.seq (.ops [⟨(some 121), .move (.tmp 12), none, 0⟩,
    ⟨(some 122), .move (.tmp 12), none, 0⟩,
    ⟨(some 123), .bin .neq (.tmp 122) (.const (.string ⟨#[]⟩)), none, 0⟩,
    ⟨(some 4), .move (.tmp 121), none, 0⟩,
    ⟨(some 5), .move (.tmp 123), none, 0⟩] false) (.ret))) (.seq (.ops [⟨(some 125), .bin .eql (.tmp 110) (.const (.int .i64 4)), none, 0⟩,
    ⟨(some 124), .move (.tmp 125), none, 0⟩] false) (.cond (.tmp 124) (.seq (.ops [⟨(some 126), .move (.tmp 6), none, 0⟩,
    ⟨(some 127), .iaddr 1 (.tmp 126) (.const (.int .i64 0)), none, 0⟩,
    ⟨(some 128), .load1 (.tmp 127), none, 0⟩,
    ⟨(some 129), .bin .add (.const (.string ⟨#[33]⟩)) (.tmp 128), none, 0⟩,
    ⟨(some 4), .move (.tmp 129), none, 0⟩,
    ⟨(some 5), .move (.const (.bool true)), none, 0⟩] false) (.ret)) (.seq (.ops [⟨(some 131), .bin .eql (.tmp 110) (.const (.int .i64 7)), none, 0⟩,
    ⟨(some 130), .move (.tmp 131), none, 0⟩] false) (.cond (.tmp 130) (.seq (.ops [⟨(some 132), .move (.tmp 6), none, 0⟩,
    ⟨(some 133), .iaddr 1 (.tmp 132) (.const (.int .i64 0)), none, 0⟩,
    ⟨(some 134), .load1 (.tmp 133), none, 0⟩,
    ⟨(some 135), .bin .add (.const (.string ⟨#[88, 32]⟩)) (.tmp 134), none, 0⟩,
    ⟨(some 4), .move (.tmp 135), none, 0⟩,
    ⟨(some 5), .move (.const (.bool true)), none, 0⟩] false) (.ret)) (.seq (.ops [⟨(some 137), .bin .eql (.tmp 110) (.const (.int .i64 10)), none, 0⟩,
    ⟨(some 136), .move (.tmp 137), none, 0⟩] false) (.cond (.tmp 136) (.seq (.ops [⟨(some 138), .move (.tmp 6), none, 0⟩,
    ⟨(some 139), .iaddr 1 (.tmp 138) (.const (.int .i64 0)), none, 0⟩,
    ⟨(some 140), .load1 (.tmp 139), none, 0⟩,
    ⟨(some 141), .bin .add (.const (.string ⟨#[70, 32]⟩)) (.tmp 140), none, 0⟩,
    ⟨(some 4), .move (.tmp 141), none, 0⟩,
    ⟨(some 5), .move (.const (.bool true)), none, 0⟩] false) (.ret)) (.seq (.ops [⟨(some 143), .bin .eql (.tmp 110) (.const (.int .i64 11)), none, 0⟩,
    ⟨(some 142), .move (.tmp 143), none, 0⟩] false) (.cond (.tmp 142) (.seq (.ops [⟨(some 144), .move (.tmp 6), none, 0⟩,
    ⟨(some 145), .iaddr 1 (.tmp 144) (.const (.int .i64 0)), none, 0⟩,
    ⟨(some 146), .load1 (.tmp 145), none, 0⟩,
    ⟨(some 147), .bin .add (.const (.string ⟨#[71, 32]⟩)) (.tmp 146), none, 0⟩,
    ⟨(some 4), .move (.tmp 147), none, 0⟩,
    ⟨(some 5), .move (.const (.bool true)), none, 0⟩] false) (.ret)) (.seq (.ops [⟨(some 149), .bin .eql (.tmp 110) (.const (.int .i64 5)), none, 0⟩,
    ⟨(some 148), .move (.tmp 149), none, 0⟩] false) (.cond (.tmp 148) (.seq (.ops [⟨(some 150), .move (.tmp 6), none, 0⟩,
    ⟨(some 151), .iaddr 1 (.tmp 150) (.const (.int .i64 0)), none, 1⟩,
    ⟨(some 152), .load1 (.tmp 151), none, 3⟩,
    ⟨(some 153), .bin .add (.tmp 152) (.const (.string ⟨#[32, 38, 32]⟩)), none, 7⟩,
    ⟨(some 154), .move (.tmp 6), none, 0⟩,
    ⟨(some 155), .iaddr 1 (.tmp 154) (.const (.int .i64 1)), none, 16⟩,
    ⟨(some 156), .load1 (.tmp 155), none, 48⟩,
    ⟨(some 157), .bin .add (.tmp 153) (.tmp 156), none, 127⟩,
    ⟨(some 4), .move (.tmp 157), none, 255⟩,
    ⟨(some 5), .move (.const (.bool true)), none, 511⟩] true) (.ret)) (.seq (.ops [⟨(some 159), .bin .eql (.tmp 110) (.const (.int .i64 6)), none, 0⟩,
    ⟨(some 158), .move (.tmp 159), none, 0⟩] false) (.cond (.tmp 158) (.seq (.ops [⟨(some 160), .move (.tmp 6), none, 0⟩,
    ⟨(some 161), .iaddr 1 (.tmp 160) (.const (.int .i64 0)), none, 1⟩,
    ⟨(some 162), .load1 (.tmp 161), none, 3⟩,
    ⟨(some 163), .bin .add (.tmp 162) (.const (.string ⟨#[32, 47, 32]⟩)), none, 7⟩,
    ⟨(some 164), .move (.tmp 6), none, 0⟩,
    ⟨(some 165), .iaddr 1 (.tmp 164) (.const (.int .i64 1)), none, 16⟩,
    ⟨(some 166), .load1 (.tmp 165), none, 48⟩,
    ⟨(some 167), .bin .add (.tmp 163) (.tmp 166), none, 127⟩,
    ⟨(some 4), .move (.tmp 167), none, 255⟩,
    ⟨(some 5), .move (.const (.bool true)), none, 511⟩] true) (.ret)) (.seq (.ops [⟨(some 169), .bin .eql (.tmp 110) (.const (.int .i64 8)), none, 0⟩,
    ⟨(some 168), .move (.tmp 169), none, 0⟩] false) (.cond (.tmp 168) (.seq (.ops [⟨(some 170), .move (.tmp 6), none, 0⟩,
    ⟨(some 171), .iaddr 1 (.tmp 170) (.const (.int .i64 0)), none, 1⟩,
    ⟨(some 172), .load1 (.tmp 171), none, 3⟩,
    ⟨(some 173), .bin .add (.tmp 172) (.const (.string ⟨#[32, 85, 32]⟩)), none, 7⟩,
    ⟨(some 174), .move (.tmp 6), none, 0⟩,
    ⟨(some 175), .iaddr 1 (.tmp 174) (.const (.int .i64 1)), none, 16⟩,
    ⟨(some 176), .load1 (.tmp 175), none, 48⟩,
    ⟨(some 177), .bin .add (.tmp 173) (.tmp 176), none, 127⟩,
    ⟨(some 4), .move (.tmp 177), none, 255⟩,
    ⟨(some 5), .move (.const (.bool true)), none, 511⟩] true) (.ret)) (.skip))))))))))))))))))))))) (.seq (.ops [⟨(some 178), .move (.tmp 6), none, 0⟩,
    ⟨(some 179), .iaddr 1 (.tmp 178) (.const (.int .i64 0)), none, 1⟩,
    ⟨(some 180), .load1 (.tmp 179), none, 3⟩,
    ⟨(some 181), .bin .add (.tmp 180) (.const (.string ⟨#[32, 82, 32]⟩)), none, 7⟩,
    ⟨(some 182), .move (.tmp 6), none, 0⟩,
    ⟨(some 183), .iaddr 1 (.tmp 182) (.const (.int .i64 1)), none, 16⟩,
    ⟨(some 184), .load1 (.tmp 183), none, 48⟩,
    ⟨(some 185), .bin .add (.tmp 181) (.tmp 184), none, 127⟩,
    ⟨(some 4), .move (.tmp 185), none, 255⟩,
    ⟨(some 5), .move (.const (.bool true)), none, 511⟩] true) (.ret)))))
set_option maxRecDepth 100000 in
theorem c41_ok : FunOK Try.prog 41 186 [.tmp 4, .tmp 5] c41 := ⟨⟨Try.f41, Try.func41, rfl, by kernel_rfl, rfl, by kernel_rfl⟩⟩
def kidsTo (names : List ByteArray) (t : Tree) (k : Nat) : List (List D) := (List.range k).map fun j => [.sc (.string (kidSL names t j))]
theorem kidsTo_at {names : List ByteArray} {t : Tree} {k j : Nat} (h : j < k) : (kidsTo names t k)[j]? = some [.sc (.string (kidSL names t j))] := by
  simp [kidsTo, List.getElem?_map, List.getElem?_range h]
@[simp] theorem kidsTo_len (names : List ByteArray) (t : Tree) (k : Nat) : (kidsTo names t k).length = k := by simp [kidsTo]
theorem kidsTo_succ (names : List ByteArray) (t : Tree) (k : Nat) : List.drop 0 (List.take k (kidsTo names t k)) ++ [[.sc (.string (kidSL names t k))]] = kidsTo names t (k + 1) := by
  rw [List.drop_zero, List.take_of_length_le (by simp)]
  simp [kidsTo, List.range_succ]
theorem pure_kidsTo (names : List ByteArray) (t : Tree) (k : Nat) : PureLL (kidsTo names t k) := pureLL_map _ (fun j => by simp [PureL, Pure]) _
def saidL (names : List ByteArray) (t : Tree) : D := .tup [.sc (.string (if okN names t then txtL names t else ⟨#[]⟩)), .sc (.bool (okN names t))]
theorem ref_LtlText (names : List ByteArray) (hn : SmallS names) : ∀ t : Tree, t.wf lKids → t.size ≤ 60 → PCall Try.prog 41 [dtree t, dstrs names] (saidL names t) := by
  intro t
  induction t using Tree.ind with
  | h t ih =>
    intro hwf hsz
    have hs := wf_small t hwf
    have hwd := hs.width
    have har := node_arity ((wf_iff _ _).1 hwf).1
    have hnum : 0 ≤ t.num := by have := ((wf_iff _ _).1 hwf).1; unfold oddNode at this; omega
    have tsz : ∀ j, j < t.width → (txtL names (t.kid j)).size ≤ 720 ∧ (t.kid j).size ≤ 60 := fun j hj => by
      have h1 := txtL_size names (t.kid j)
      have h2 := size_kid hj
      omega
    have ksz : ∀ j, j < t.width → (kidSL names t j).size ≤ 722 := fun j hj => by
      have := wrap_size (bareL t.kind j (t.kid j).kind) (txtL names (t.kid j))
      have := tsz j hj
      unfold kidSL
      omega
    refine pcall_intro c41_ok (by simp) (by simp [PureL, pure_dtree, pure_dstrs]) ?_ (by simp [saidL, Pure, PureL])
    (apply red_sound; focus (repeat' (first | exact Red.skip | exact Red.ret | exact RedO.nil | exact RedD.nil | exact Red.exit _ | exact Red.loop _ | exact Red.stop _ | apply Red.ops | apply Red.draw | apply Red.seq | apply Red.cond | apply Red.block | apply RedO.cons | apply RedD.cons | exact (0 : Nat))))
    ((conv => whnf); repeat (refine And.intro rfl ?_; (conv => whnf)))
    have bad : ∀ {j : Nat}, j < t.width → okN names (t.kid j) = false → okN names t = false := fun {j} hj h => by
      rw [okN_eq]
      simp only [Bool.and_eq_false_iff]
      refine .inr (List.all_eq_false.2 ⟨t.kid j, by rw [Tree.kid_get hj]; exact List.getElem_mem _, by simp [h]⟩)
    refine pwp_loopB (fun k : Nat => [(1, dstrs names), (2, .loc 0 0), (6, .own 1 k 0 k), (7, .sc (.int .i64 k))])
      (fun k => [.row true (drow t), .vec true k 1 (kidsTo names t k)])
      (fun k => k ≤ t.width ∧ ∀ j, j < k → okN names (t.kid j) = true) (fun k => t.width - k) 0 ⟨by omega, fun j h => by omega⟩ (leB_trans (leB_nil 6 1 (by simp) rfl) (leB_env ⟨rfl, rfl, rfl, rfl, trivial⟩)) ?_
    rintro k ⟨hk, hall⟩
    (apply red_sound; focus (repeat' (first | exact Red.skip | exact Red.ret | exact RedO.nil | exact RedD.nil | exact Red.exit _ | exact Red.loop _ | exact Red.stop _ | apply Red.ops | apply Red.draw | apply Red.seq | apply Red.cond | apply Red.block | apply RedO.cons | apply RedD.cons | exact (0 : Nat))))
    ((conv => whnf); repeat (refine And.intro rfl ?_; (conv => whnf)))
    (refine ifK_split (fun h1 => ?_) (fun h1 => ?_) <;> (rw [h1]; ((conv => whnf); repeat (refine And.intro rfl ?_; (conv => whnf)))))
    · have hk' : k < t.width := by simpa [Tree.width] using h1
      refine ⟨by omega, _, kid_at hk', ?_⟩
      ((conv => whnf); repeat (refine And.intro rfl ?_; (conv => whnf)))
      have ihk := ih k hk' (wf_kid hwf hk') (tsz k hk').2
      cases hok : okN names (t.kid k)
      · simp only [saidL, hok] at ihk
        (refine .inl ⟨_, ihk, ?_⟩; ((conv => whnf); repeat (refine And.intro rfl ?_; (conv => whnf))))
        have := bad hk' hok
        exact deep_eq (by simp only [saidL, this]; rfl)
      simp only [saidL, hok, if_true] at ihk
      (refine .inl ⟨_, ihk, ?_⟩; ((conv => whnf); repeat (refine And.intro rfl ?_; (conv => whnf))))
      have tk := tsz k hk'
      have kk := ksz k hk'
      refine pwp_cut (fun _ : Unit => [(1, dstrs names), (2, .loc 0 0), (6, .own 1 k 0 k), (7, .sc (.int .i64 k)), (8, .loc 2 0), (9, .sc (.string (txtL names (t.kid k)))), (11, .sc (.bool (decide ((t.kid k).kind = 5 ∨ (t.kid k).kind = 6 ∨ (t.kid k).kind = 8 ∨ (t.kid k).kind = 9))))])
        (fun _ => [.row true (drow t), .vec true k 1 (kidsTo names t k), .row true (drow (t.kid k))]) (fun _ => True) ?_ ?_
      · (apply red_sound; focus (repeat' (first | exact Red.skip | exact Red.ret | exact RedO.nil | exact RedD.nil | exact Red.exit _ | exact Red.loop _ | exact Red.stop _ | apply Red.ops | apply Red.draw | apply Red.seq | apply Red.cond | apply Red.block | apply RedO.cons | apply RedD.cons | exact (0 : Nat))))
        ((conv => whnf); repeat (refine And.intro rfl ?_; (conv => whnf)))
        repeat' (first
          | (first | (refine ifK_t ‹_› ?_; ((conv => whnf); repeat (refine And.intro rfl ?_; (conv => whnf)))) | (refine ifK_f ‹_› ?_; ((conv => whnf); repeat (refine And.intro rfl ?_; (conv => whnf)))) | (refine ifK_split (fun h => ?_) (fun h => ?_) <;> (rw [h]; ((conv => whnf); repeat (refine And.intro rfl ?_; (conv => whnf))))))
          | exact ⟨(), trivial, leB_env ⟨rfl, rfl, rfl, rfl, rfl, rfl, congrArg (fun b => D.sc (.bool b)) (by simp_all <;> rfl), trivial⟩⟩)
      rintro _ _
      ((conv => whnf); repeat (refine And.intro rfl ?_; (conv => whnf)))
      refine pwp_cut (fun _ : Unit => [(1, dstrs names), (2, .loc 0 0), (6, .own 1 k 0 k), (7, .sc (.int .i64 k)), (8, .loc 2 0), (9, .sc (.string (txtL names (t.kid k)))), (11, .sc (.bool (decide ((t.kid k).kind = 5 ∨ (t.kid k).kind = 6 ∨ (t.kid k).kind = 8 ∨ (t.kid k).kind = 9)))),
          (100, .sc (.bool (decide ((k = 0 ∧ (t.kid k).kind = t.kind ∧ ((t.kid k).kind = 5 ∨ (t.kid k).kind = 6)) ∨ (k = 1 ∧ (t.kid k).kind = t.kind ∧ ((t.kid k).kind = 8 ∨ (t.kid k).kind = 9)) ∨ (t.kind = 6 ∧ (t.kid k).kind = 5)))))])
        (fun _ => [.row true (drow t), .vec true k 1 (kidsTo names t k), .row true (drow (t.kid k))]) (fun _ => True) ?_ ?_
      · (apply red_sound; focus (repeat' (first | exact Red.skip | exact Red.ret | exact RedO.nil | exact RedD.nil | exact Red.exit _ | exact Red.loop _ | exact Red.stop _ | apply Red.ops | apply Red.draw | apply Red.seq | apply Red.cond | apply Red.block | apply RedO.cons | apply RedD.cons | exact (0 : Nat))))
        ((conv => whnf); repeat (refine And.intro rfl ?_; (conv => whnf)))
        have e0 : ((k : Int) == 0) = decide (k = 0) := by rw [Bool.eq_iff_iff]; simp
        have e1 : ((k : Int) == 1) = decide (k = 1) := by rw [Bool.eq_iff_iff]; simp; omega
        repeat' (first
          | (first | (refine ifK_t ‹_› ?_; ((conv => whnf); repeat (refine And.intro rfl ?_; (conv => whnf)))) | (refine ifK_f ‹_› ?_; ((conv => whnf); repeat (refine And.intro rfl ?_; (conv => whnf)))) | (refine ifK_split (fun h => ?_) (fun h => ?_) <;> (rw [h]; ((conv => whnf); repeat (refine And.intro rfl ?_; (conv => whnf))))))
          | exact ⟨(), trivial, leB_env ⟨rfl, rfl, rfl, rfl, rfl, rfl, rfl, congrArg (fun b => D.sc (.bool b)) (by
              clear ih hall ihk tsz ksz bad
              rw [Bool.eq_iff_iff]
              simp only [beq_iff_eq, beq_eq_false_iff_ne, ne_eq, decide_eq_true_eq, Bool.false_eq_true, false_iff, true_iff] at *
              omega), trivial⟩⟩)
      rintro _ _
      ((conv => whnf); repeat (refine And.intro rfl ?_; (conv => whnf)))
      have bare : kidSL names t k = if bareL t.kind k (t.kid k).kind then txtL names (t.kid k) else ⟨#[40]⟩ ++ txtL names (t.kid k) ++ ⟨#[41]⟩ := rfl
      have fin : ∀ {s : ByteArray}, s = kidSL names t k → List.drop 0 (List.take k (kidsTo names t k)) ++ [[D.sc (.string s)]] = kidsTo names t (k + 1) := fun h => by rw [h, kidsTo_succ]
      have cond : ∀ {p : Prop} [Decidable p], decide p = true → p := fun h => by simpa using h
      have cond' : ∀ {p : Prop} [Decidable p], decide p = false → ¬ p := fun h => by simpa using h
      have eqs : ∀ b : Bool, bareL t.kind k (t.kid k).kind = b → kidSL names t k = if b then txtL names (t.kid k) else ⟨#[40]⟩ ++ txtL names (t.kid k) ++ ⟨#[41]⟩ := fun b h => by rw [bare, h]
      have hB : bareL t.kind k (t.kid k).kind = true ↔ ¬ ((t.kid k).kind = 5 ∨ (t.kid k).kind = 6 ∨ (t.kid k).kind = 8 ∨ (t.kid k).kind = 9) ∨ ((k = 0 ∧ (t.kid k).kind = t.kind ∧ ((t.kid k).kind = 5 ∨ (t.kid k).kind = 6)) ∨ (k = 1 ∧ (t.kid k).kind = t.kind ∧ ((t.kid k).kind = 8 ∨ (t.kid k).kind = 9)) ∨ (t.kind = 6 ∧ (t.kid k).kind = 5)) := by
        unfold bareL
        clear ih hall ihk tsz ksz bad bare fin eqs cond cond'
        repeat' split
        all_goals
          simp only [Bool.or_eq_true, Bool.and_eq_true, beq_iff_eq, true_iff]
          omega
      have wrapped : ∀ {s : ByteArray}, s = kidSL names t k → s.size ≤ 722 := fun h => h ▸ kk
      (refine ifK_split (fun h5 => ?_) (fun h5 => ?_) <;> (rw [h5]; ((conv => whnf); repeat (refine And.intro rfl ?_; (conv => whnf)))))
      · have hs : txtL names (t.kid k) = kidSL names t k := by rw [eqs true (hB.2 (.inr (cond h5)))]; rfl
        refine ⟨by unfold sliceAppend; simp only [List.drop_zero, List.take_succ_cons, List.take_zero, List.length_cons, List.length_nil]; omega, ?_⟩
        ((conv => whnf); repeat (refine And.intro rfl ?_; (conv => whnf)))
        refine .inl ⟨by unfold InR; rw [IntKind.wrap_i64]; unfold Tree.width at *; omega, ?_⟩
        ((conv => whnf); repeat (refine And.intro rfl ?_; (conv => whnf)))
        exact ⟨k + 1, ⟨by omega, fun j hj => by by_cases e : j = k; subst e; exact hok; exact hall j (by omega)⟩, by dsimp only; omega, leB_close 2 (by simp) rfl ⟨.refl _, under_pure _ (pure_dstrs names), .refl _, by simp [Under], .refl _, by simp [Under], .refl _, by simp [Under], trivial⟩
          ⟨⟨rfl, .refl _, underL_pure _ (pure_drow t)⟩, ⟨rfl, rfl, rfl, deepMLL_eq (fin hs), underLL_pure _ (pure_kidsTo _ _ _)⟩, trivial⟩⟩
      (refine ifK_split (fun h6 => ?_) (fun h6 => ?_) <;> (rw [h6]; ((conv => whnf); repeat (refine And.intro rfl ?_; (conv => whnf)))))
      · have hs : ⟨#[40]⟩ ++ txtL names (t.kid k) ++ ⟨#[41]⟩ = kidSL names t k := by
          rw [eqs false (by rw [← Bool.not_eq_true, hB]; exact fun h => h.elim (fun h => h (cond h6)) (cond' h5))]; rfl
        refine ⟨by simp only [ByteArray.size_append, size_mk, List.size_toArray, List.length_cons, List.length_nil]; omega, ?_⟩
        ((conv => whnf); repeat (refine And.intro rfl ?_; (conv => whnf)))
        refine ⟨by simp only [ByteArray.size_append, size_mk, List.size_toArray, List.length_cons, List.length_nil]; omega, ?_⟩
        ((conv => whnf); repeat (refine And.intro rfl ?_; (conv => whnf)))
        refine ⟨by unfold sliceAppend; simp only [List.drop_zero, List.take_succ_cons, List.take_zero, List.length_cons, List.length_nil]; omega, ?_⟩
        ((conv => whnf); repeat (refine And.intro rfl ?_; (conv => whnf)))
        refine .inl ⟨by unfold InR; rw [IntKind.wrap_i64]; unfold Tree.width at *; omega, ?_⟩
        ((conv => whnf); repeat (refine And.intro rfl ?_; (conv => whnf)))
        exact ⟨k + 1, ⟨by omega, fun j hj => by by_cases e : j = k; subst e; exact hok; exact hall j (by omega)⟩, by dsimp only; omega, leB_close 2 (by simp) rfl ⟨.refl _, under_pure _ (pure_dstrs names), .refl _, by simp [Under], .refl _, by simp [Under], .refl _, by simp [Under], trivial⟩
          ⟨⟨rfl, .refl _, underL_pure _ (pure_drow t)⟩, ⟨rfl, rfl, rfl, deepMLL_eq (fin hs), underLL_pure _ (pure_kidsTo _ _ _)⟩, trivial⟩⟩
      · have hs : txtL names (t.kid k) = kidSL names t k := by rw [eqs true (hB.2 (.inl (cond' h6)))]; rfl
        refine ⟨by unfold sliceAppend; simp only [List.drop_zero, List.take_succ_cons, List.take_zero, List.length_cons, List.length_nil]; omega, ?_⟩
        ((conv => whnf); repeat (refine And.intro rfl ?_; (conv => whnf)))
        refine .inl ⟨by unfold InR; rw [IntKind.wrap_i64]; unfold Tree.width at *; omega, ?_⟩
        ((conv => whnf); repeat (refine And.intro rfl ?_; (conv => whnf)))
        exact ⟨k + 1, ⟨by omega, fun j hj => by by_cases e : j = k; subst e; exact hok; exact hall j (by omega)⟩, by dsimp only; omega, leB_close 2 (by simp) rfl ⟨.refl _, under_pure _ (pure_dstrs names), .refl _, by simp [Under], .refl _, by simp [Under], .refl _, by simp [Under], trivial⟩
          ⟨⟨rfl, .refl _, underL_pure _ (pure_drow t)⟩, ⟨rfl, rfl, rfl, deepMLL_eq (fin hs), underLL_pure _ (pure_kidsTo _ _ _)⟩, trivial⟩⟩
    · have hkw : k = t.width := by have : ¬ k < t.width := by simpa [Tree.width] using h1
                                   omega
      clear h1
      have good : t.kind ≠ 3 → okN names t = true := fun h3 => by
        rw [okN_eq]
        simp only [Bool.and_eq_true]
        refine ⟨by simp [okHead, h3], List.all_eq_true.2 fun u hu => ?_⟩
        obtain ⟨j, hj, rfl⟩ := List.mem_iff_getElem.1 hu
        have := hall j (by rw [hkw]; exact hj)
        rwa [Tree.kid_get hj] at this
      have fin : ∀ {H : List AObj} {s : ByteArray}, t.kind ≠ 3 → s = txtL names t → Deep H (.tup [.sc (.string s), .sc (.bool true)]) (saidL names t) := fun h3 h => by
        unfold saidL
        rw [good h3, h]
        exact .refl _
      (refine ifK_split (fun h1 => ?_) (fun h1 => ?_) <;> (rw [h1]; ((conv => whnf); repeat (refine And.intro rfl ?_; (conv => whnf)))))
      · have hk1 : t.kind = 1 := by ((try simp only [bne_iff_ne, ne_eq, bne_eq_false_iff_eq, beq_iff_eq, beq_eq_false_iff_ne, decide_eq_true_eq, decide_eq_false_iff_not, List.length_map, Bool.not_eq_true, Bool.not_eq_false, Bool.and_eq_true, Bool.or_eq_true, Bool.and_eq_false_iff, Bool.or_eq_false_iff, Bool.not_eq_true', Bool.not_eq_false', Bool.not_true, Bool.not_false, Bool.not_eq_eq_eq_not, not_true_eq_false, not_false_eq_true, reduceCtorEq, Bool.true_or, Bool.false_or, Bool.or_true, Bool.or_false, Bool.true_and, Bool.and_true, Bool.false_and, Bool.and_false, true_and, and_true, or_false, false_or, true_or, or_true, false_and, and_false, Bool.true_eq_false, Bool.false_eq_true] at *) <;> omega)
        exact fin (by omega) (by rw [txtL_0 names (by omega), hk1]; rfl)
      (refine ifK_split (fun h2 => ?_) (fun h2 => ?_) <;> (rw [h2]; ((conv => whnf); repeat (refine And.intro rfl ?_; (conv => whnf)))))
      · have hk1 : t.kind = 2 := by ((try simp only [bne_iff_ne, ne_eq, bne_eq_false_iff_eq, beq_iff_eq, beq_eq_false_iff_ne, decide_eq_true_eq, decide_eq_false_iff_not, List.length_map, Bool.not_eq_true, Bool.not_eq_false, Bool.and_eq_true, Bool.or_eq_true, Bool.and_eq_false_iff, Bool.or_eq_false_iff, Bool.not_eq_true', Bool.not_eq_false', Bool.not_true, Bool.not_false, Bool.not_eq_eq_eq_not, not_true_eq_false, not_false_eq_true, reduceCtorEq, Bool.true_or, Bool.false_or, Bool.or_true, Bool.or_false, Bool.true_and, Bool.and_true, Bool.false_and, Bool.and_false, true_and, and_true, or_false, false_or, true_or, or_true, false_and, and_false, Bool.true_eq_false, Bool.false_eq_true] at *) <;> omega)
        exact fin (by omega) (by rw [txtL_0 names (by omega), hk1]; rfl)
      (refine ifK_split (fun h3 => ?_) (fun h3 => ?_) <;> (rw [h3]; ((conv => whnf); repeat (refine And.intro rfl ?_; (conv => whnf)))))
      · have hk1 : t.kind = 3 := by ((try simp only [bne_iff_ne, ne_eq, bne_eq_false_iff_eq, beq_iff_eq, beq_eq_false_iff_ne, decide_eq_true_eq, decide_eq_false_iff_not, List.length_map, Bool.not_eq_true, Bool.not_eq_false, Bool.and_eq_true, Bool.or_eq_true, Bool.and_eq_false_iff, Bool.or_eq_false_iff, Bool.not_eq_true', Bool.not_eq_false', Bool.not_true, Bool.not_false, Bool.not_eq_eq_eq_not, not_true_eq_false, not_false_eq_true, reduceCtorEq, Bool.true_or, Bool.false_or, Bool.or_true, Bool.or_false, Bool.true_and, Bool.and_true, Bool.false_and, Bool.and_false, true_and, and_true, or_false, false_or, true_or, or_true, false_and, and_false, Bool.true_eq_false, Bool.false_eq_true] at *) <;> omega)
        (refine .inl ⟨_, (ref_NameOf names hn t.num hnum), ?_⟩; ((conv => whnf); repeat (refine And.intro rfl ?_; (conv => whnf))))
        have e1 : txtL names t = nm names t.num := by rw [txtL_0 names (by omega), hk1]; rfl
        have e2 : okN names t = !(eqS (nm names t.num) ⟨#[]⟩) := by rw [okN_0 names (by omega), hk1]; rfl
        refine deep_eq ?_
        unfold saidL
        rw [e1, e2]
        show D.tup [.sc (.string (nm names t.num)), .sc (.bool (!(eqS (nm names t.num) ⟨#[]⟩)))] = _
        cases e : eqS (nm names t.num) ⟨#[]⟩
        · rfl
        · rw [ByteArray.size_eq_zero_iff.1 ((eqS_empty _).1 e)]; rfl
      (refine ifK_split (fun h4 => ?_) (fun h4 => ?_) <;> (rw [h4]; ((conv => whnf); repeat (refine And.intro rfl ?_; (conv => whnf)))))
      · have hk1 : t.kind = 4 := by ((try simp only [bne_iff_ne, ne_eq, bne_eq_false_iff_eq, beq_iff_eq, beq_eq_false_iff_ne, decide_eq_true_eq, decide_eq_false_iff_not, List.length_map, Bool.not_eq_true, Bool.not_eq_false, Bool.and_eq_true, Bool.or_eq_true, Bool.and_eq_false_iff, Bool.or_eq_false_iff, Bool.not_eq_true', Bool.not_eq_false', Bool.not_true, Bool.not_false, Bool.not_eq_eq_eq_not, not_true_eq_false, not_false_eq_true, reduceCtorEq, Bool.true_or, Bool.false_or, Bool.or_true, Bool.or_false, Bool.true_and, Bool.and_true, Bool.false_and, Bool.and_false, true_and, and_true, or_false, false_or, true_or, or_true, false_and, and_false, Bool.true_eq_false, Bool.false_eq_true] at *) <;> omega)
        have hw : t.width = 1 := by omega
        have := ksz 0 (by omega)
        refine ⟨by omega, by omega, ?_⟩
        ((conv => whnf); repeat (refine And.intro rfl ?_; (conv => whnf)))
        refine ⟨_, kidsTo_at (j := 0) (by omega), ?_⟩
        ((conv => whnf); repeat (refine And.intro rfl ?_; (conv => whnf)))
        refine ⟨by simp only [ByteArray.size_append, size_mk, List.size_toArray, List.length_cons, List.length_nil]; omega, ?_⟩
        ((conv => whnf); repeat (refine And.intro rfl ?_; (conv => whnf)))
        exact fin (by omega) (by rw [txtL_1 names hw, hk1]; rfl)
      (refine ifK_split (fun h5 => ?_) (fun h5 => ?_) <;> (rw [h5]; ((conv => whnf); repeat (refine And.intro rfl ?_; (conv => whnf)))))
      · have hk1 : t.kind = 7 := by ((try simp only [bne_iff_ne, ne_eq, bne_eq_false_iff_eq, beq_iff_eq, beq_eq_false_iff_ne, decide_eq_true_eq, decide_eq_false_iff_not, List.length_map, Bool.not_eq_true, Bool.not_eq_false, Bool.and_eq_true, Bool.or_eq_true, Bool.and_eq_false_iff, Bool.or_eq_false_iff, Bool.not_eq_true', Bool.not_eq_false', Bool.not_true, Bool.not_false, Bool.not_eq_eq_eq_not, not_true_eq_false, not_false_eq_true, reduceCtorEq, Bool.true_or, Bool.false_or, Bool.or_true, Bool.or_false, Bool.true_and, Bool.and_true, Bool.false_and, Bool.and_false, true_and, and_true, or_false, false_or, true_or, or_true, false_and, and_false, Bool.true_eq_false, Bool.false_eq_true] at *) <;> omega)
        have hw : t.width = 1 := by omega
        have := ksz 0 (by omega)
        refine ⟨by omega, by omega, ?_⟩
        ((conv => whnf); repeat (refine And.intro rfl ?_; (conv => whnf)))
        refine ⟨_, kidsTo_at (j := 0) (by omega), ?_⟩
        ((conv => whnf); repeat (refine And.intro rfl ?_; (conv => whnf)))
        refine ⟨by simp only [ByteArray.size_append, size_mk, List.size_toArray, List.length_cons, List.length_nil]; omega, ?_⟩
        ((conv => whnf); repeat (refine And.intro rfl ?_; (conv => whnf)))
        exact fin (by omega) (by rw [txtL_1 names hw, hk1]; rfl)
      (refine ifK_split (fun h6 => ?_) (fun h6 => ?_) <;> (rw [h6]; ((conv => whnf); repeat (refine And.intro rfl ?_; (conv => whnf)))))
      · have hk1 : t.kind = 10 := by ((try simp only [bne_iff_ne, ne_eq, bne_eq_false_iff_eq, beq_iff_eq, beq_eq_false_iff_ne, decide_eq_true_eq, decide_eq_false_iff_not, List.length_map, Bool.not_eq_true, Bool.not_eq_false, Bool.and_eq_true, Bool.or_eq_true, Bool.and_eq_false_iff, Bool.or_eq_false_iff, Bool.not_eq_true', Bool.not_eq_false', Bool.not_true, Bool.not_false, Bool.not_eq_eq_eq_not, not_true_eq_false, not_false_eq_true, reduceCtorEq, Bool.true_or, Bool.false_or, Bool.or_true, Bool.or_false, Bool.true_and, Bool.and_true, Bool.false_and, Bool.and_false, true_and, and_true, or_false, false_or, true_or, or_true, false_and, and_false, Bool.true_eq_false, Bool.false_eq_true] at *) <;> omega)
        have hw : t.width = 1 := by omega
        have := ksz 0 (by omega)
        refine ⟨by omega, by omega, ?_⟩
        ((conv => whnf); repeat (refine And.intro rfl ?_; (conv => whnf)))
        refine ⟨_, kidsTo_at (j := 0) (by omega), ?_⟩
        ((conv => whnf); repeat (refine And.intro rfl ?_; (conv => whnf)))
        refine ⟨by simp only [ByteArray.size_append, size_mk, List.size_toArray, List.length_cons, List.length_nil]; omega, ?_⟩
        ((conv => whnf); repeat (refine And.intro rfl ?_; (conv => whnf)))
        exact fin (by omega) (by rw [txtL_1 names hw, hk1]; rfl)
      (refine ifK_split (fun h7 => ?_) (fun h7 => ?_) <;> (rw [h7]; ((conv => whnf); repeat (refine And.intro rfl ?_; (conv => whnf)))))
      · have hk1 : t.kind = 11 := by ((try simp only [bne_iff_ne, ne_eq, bne_eq_false_iff_eq, beq_iff_eq, beq_eq_false_iff_ne, decide_eq_true_eq, decide_eq_false_iff_not, List.length_map, Bool.not_eq_true, Bool.not_eq_false, Bool.and_eq_true, Bool.or_eq_true, Bool.and_eq_false_iff, Bool.or_eq_false_iff, Bool.not_eq_true', Bool.not_eq_false', Bool.not_true, Bool.not_false, Bool.not_eq_eq_eq_not, not_true_eq_false, not_false_eq_true, reduceCtorEq, Bool.true_or, Bool.false_or, Bool.or_true, Bool.or_false, Bool.true_and, Bool.and_true, Bool.false_and, Bool.and_false, true_and, and_true, or_false, false_or, true_or, or_true, false_and, and_false, Bool.true_eq_false, Bool.false_eq_true] at *) <;> omega)
        have hw : t.width = 1 := by omega
        have := ksz 0 (by omega)
        refine ⟨by omega, by omega, ?_⟩
        ((conv => whnf); repeat (refine And.intro rfl ?_; (conv => whnf)))
        refine ⟨_, kidsTo_at (j := 0) (by omega), ?_⟩
        ((conv => whnf); repeat (refine And.intro rfl ?_; (conv => whnf)))
        refine ⟨by simp only [ByteArray.size_append, size_mk, List.size_toArray, List.length_cons, List.length_nil]; omega, ?_⟩
        ((conv => whnf); repeat (refine And.intro rfl ?_; (conv => whnf)))
        exact fin (by omega) (by rw [txtL_1 names hw, hk1]; rfl)
      (refine ifK_split (fun h8 => ?_) (fun h8 => ?_) <;> (rw [h8]; ((conv => whnf); repeat (refine And.intro rfl ?_; (conv => whnf)))))
      · have hk1 : t.kind = 5 := by ((try simp only [bne_iff_ne, ne_eq, bne_eq_false_iff_eq, beq_iff_eq, beq_eq_false_iff_ne, decide_eq_true_eq, decide_eq_false_iff_not, List.length_map, Bool.not_eq_true, Bool.not_eq_false, Bool.and_eq_true, Bool.or_eq_true, Bool.and_eq_false_iff, Bool.or_eq_false_iff, Bool.not_eq_true', Bool.not_eq_false', Bool.not_true, Bool.not_false, Bool.not_eq_eq_eq_not, not_true_eq_false, not_false_eq_true, reduceCtorEq, Bool.true_or, Bool.false_or, Bool.or_true, Bool.or_false, Bool.true_and, Bool.and_true, Bool.false_and, Bool.and_false, true_and, and_true, or_false, false_or, true_or, or_true, false_and, and_false, Bool.true_eq_false, Bool.false_eq_true] at *) <;> omega)
        have hw : t.width = 2 := by omega
        have := ksz 0 (by omega)
        have := ksz 1 (by omega)
        refine ⟨by omega, by omega, ?_⟩
        ((conv => whnf); repeat (refine And.intro rfl ?_; (conv => whnf)))
        refine ⟨_, kidsTo_at (j := 0) (by omega), ?_⟩
        ((conv => whnf); repeat (refine And.intro rfl ?_; (conv => whnf)))
        refine ⟨by simp only [ByteArray.size_append, size_mk, List.size_toArray, List.length_cons, List.length_nil]; omega, ?_⟩
        ((conv => whnf); repeat (refine And.intro rfl ?_; (conv => whnf)))
        refine ⟨by omega, by omega, ?_⟩
        ((conv => whnf); repeat (refine And.intro rfl ?_; (conv => whnf)))
        refine ⟨_, kidsTo_at (j := 1) (by omega), ?_⟩
        ((conv => whnf); repeat (refine And.intro rfl ?_; (conv => whnf)))
        refine ⟨by simp only [ByteArray.size_append, size_mk, List.size_toArray, List.length_cons, List.length_nil]; omega, ?_⟩
        ((conv => whnf); repeat (refine And.intro rfl ?_; (conv => whnf)))
        exact fin (by omega) (by rw [txtL_2 names hw, hk1]; rfl)
      (refine ifK_split (fun h9 => ?_) (fun h9 => ?_) <;> (rw [h9]; ((conv => whnf); repeat (refine And.intro rfl ?_; (conv => whnf)))))
      · have hk1 : t.kind = 6 := by ((try simp only [bne_iff_ne, ne_eq, bne_eq_false_iff_eq, beq_iff_eq, beq_eq_false_iff_ne, decide_eq_true_eq, decide_eq_false_iff_not, List.length_map, Bool.not_eq_true, Bool.not_eq_false, Bool.and_eq_true, Bool.or_eq_true, Bool.and_eq_false_iff, Bool.or_eq_false_iff, Bool.not_eq_true', Bool.not_eq_false', Bool.not_true, Bool.not_false, Bool.not_eq_eq_eq_not, not_true_eq_false, not_false_eq_true, reduceCtorEq, Bool.true_or, Bool.false_or, Bool.or_true, Bool.or_false, Bool.true_and, Bool.and_true, Bool.false_and, Bool.and_false, true_and, and_true, or_false, false_or, true_or, or_true, false_and, and_false, Bool.true_eq_false, Bool.false_eq_true] at *) <;> omega)
        have hw : t.width = 2 := by omega
        have := ksz 0 (by omega)
        have := ksz 1 (by omega)
        refine ⟨by omega, by omega, ?_⟩
        ((conv => whnf); repeat (refine And.intro rfl ?_; (conv => whnf)))
        refine ⟨_, kidsTo_at (j := 0) (by omega), ?_⟩
        ((conv => whnf); repeat (refine And.intro rfl ?_; (conv => whnf)))
        refine ⟨by simp only [ByteArray.size_append, size_mk, List.size_toArray, List.length_cons, List.length_nil]; omega, ?_⟩
        ((conv => whnf); repeat (refine And.intro rfl ?_; (conv => whnf)))
        refine ⟨by omega, by omega, ?_⟩
        ((conv => whnf); repeat (refine And.intro rfl ?_; (conv => whnf)))
        refine ⟨_, kidsTo_at (j := 1) (by omega), ?_⟩
        ((conv => whnf); repeat (refine And.intro rfl ?_; (conv => whnf)))
        refine ⟨by simp only [ByteArray.size_append, size_mk, List.size_toArray, List.length_cons, List.length_nil]; omega, ?_⟩
        ((conv => whnf); repeat (refine And.intro rfl ?_; (conv => whnf)))
        exact fin (by omega) (by rw [txtL_2 names hw, hk1]; rfl)
      (refine ifK_split (fun h10 => ?_) (fun h10 => ?_) <;> (rw [h10]; ((conv => whnf); repeat (refine And.intro rfl ?_; (conv => whnf)))))
      · have hk1 : t.kind = 8 := by ((try simp only [bne_iff_ne, ne_eq, bne_eq_false_iff_eq, beq_iff_eq, beq_eq_false_iff_ne, decide_eq_true_eq, decide_eq_false_iff_not, List.length_map, Bool.not_eq_true, Bool.not_eq_false, Bool.and_eq_true, Bool.or_eq_true, Bool.and_eq_false_iff, Bool.or_eq_false_iff, Bool.not_eq_true', Bool.not_eq_false', Bool.not_true, Bool.not_false, Bool.not_eq_eq_eq_not, not_true_eq_false, not_false_eq_true, reduceCtorEq, Bool.true_or, Bool.false_or, Bool.or_true, Bool.or_false, Bool.true_and, Bool.and_true, Bool.false_and, Bool.and_false, true_and, and_true, or_false, false_or, true_or, or_true, false_and, and_false, Bool.true_eq_false, Bool.false_eq_true] at *) <;> omega)
        have hw : t.width = 2 := by omega
        have := ksz 0 (by omega)
        have := ksz 1 (by omega)
        refine ⟨by omega, by omega, ?_⟩
        ((conv => whnf); repeat (refine And.intro rfl ?_; (conv => whnf)))
        refine ⟨_, kidsTo_at (j := 0) (by omega), ?_⟩
        ((conv => whnf); repeat (refine And.intro rfl ?_; (conv => whnf)))
        refine ⟨by simp only [ByteArray.size_append, size_mk, List.size_toArray, List.length_cons, List.length_nil]; omega, ?_⟩
        ((conv => whnf); repeat (refine And.intro rfl ?_; (conv => whnf)))
        refine ⟨by omega, by omega, ?_⟩
        ((conv => whnf); repeat (refine And.intro rfl ?_; (conv => whnf)))
        refine ⟨_, kidsTo_at (j := 1) (by omega), ?_⟩
        ((conv => whnf); repeat (refine And.intro rfl ?_; (conv => whnf)))
        refine ⟨by simp only [ByteArray.size_append, size_mk, List.size_toArray, List.length_cons, List.length_nil]; omega, ?_⟩
        ((conv => whnf); repeat (refine And.intro rfl ?_; (conv => whnf)))
        exact fin (by omega) (by rw [txtL_2 names hw, hk1]; rfl)
      skip
      · have hk1 : t.kind = 9 := by ((try simp only [bne_iff_ne, ne_eq, bne_eq_false_iff_eq, beq_iff_eq, beq_eq_false_iff_ne, decide_eq_true_eq, decide_eq_false_iff_not, List.length_map, Bool.not_eq_true, Bool.not_eq_false, Bool.and_eq_true, Bool.or_eq_true, Bool.and_eq_false_iff, Bool.or_eq_false_iff, Bool.not_eq_true', Bool.not_eq_false', Bool.not_true, Bool.not_false, Bool.not_eq_eq_eq_not, not_true_eq_false, not_false_eq_true, reduceCtorEq, Bool.true_or, Bool.false_or, Bool.or_true, Bool.or_false, Bool.true_and, Bool.and_true, Bool.false_and, Bool.and_false, true_and, and_true, or_false, false_or, true_or, or_true, false_and, and_false, Bool.true_eq_false, Bool.false_eq_true] at *) <;> omega)
        have hw : t.width = 2 := by omega
        have := ksz 0 (by omega)
        have := ksz 1 (by omega)
        refine ⟨by omega, by omega, ?_⟩
        ((conv => whnf); repeat (refine And.intro rfl ?_; (conv => whnf)))
        refine ⟨_, kidsTo_at (j := 0) (by omega), ?_⟩
        ((conv => whnf); repeat (refine And.intro rfl ?_; (conv => whnf)))
        refine ⟨by simp only [ByteArray.size_append, size_mk, List.size_toArray, List.length_cons, List.length_nil]; omega, ?_⟩
        ((conv => whnf); repeat (refine And.intro rfl ?_; (conv => whnf)))
        refine ⟨by omega, by omega, ?_⟩
        ((conv => whnf); repeat (refine And.intro rfl ?_; (conv => whnf)))
        refine ⟨_, kidsTo_at (j := 1) (by omega), ?_⟩
        ((conv => whnf); repeat (refine And.intro rfl ?_; (conv => whnf)))
        refine ⟨by simp only [ByteArray.size_append, size_mk, List.size_toArray, List.length_cons, List.length_nil]; omega, ?_⟩
        ((conv => whnf); repeat (refine And.intro rfl ?_; (conv => whnf)))
        exact fin (by omega) (by rw [txtL_2 names hw, hk1]; rfl)
end Go.Proofs.Ytkkfiadefekbbaa
